/- The law BlockLimits, by facts. No conditions. -/
import Derived.Test.YtlplpmkdebemnaaGLBlA
import Derived.Test.YtlplpmkdebemnaaProg
import Derived.Test.YtlplpmkdebemnaaFwU
namespace Go.Proofs.Ytlplpmkdebemnaa
set_option linter.unusedVariables false
set_option linter.unusedSimpArgs false
set_option linter.unnecessarySimpa false
set_option maxRecDepth 100000
open Go.RowKit Bv Fw

set_option maxHeartbeats 4000000 in
theorem blockLimits_f (z : Int) (y : Int) (w : World) (hO : HOK [] w)  : Calls Try.prog 3 [(.int .i64 z), (.int .i64 y)].toArray w (Ret (T := Unit) [] w (fun _ => True) (fun _ => (.bool true)) (fun _ => [])) := by
 have hF : Wid Fence.wide := wid_wide
 refine enter (c := _) Try.func3 rfl [] _ [] (by rw [Try.ntmps3]; rfl) (own_rds hO rfl) ?_
 rw [Try.ntmps3]
 refine T_re [(0, (.int .i64 z)), (1, (.int .i64 y))] (sc rfl (sc rfl sn)) ?_
 refine T_he [] [] ⟨by decide, rfl⟩ ?_
 refine Tsr hF rfl ?_
 refine la rfl rfl rfl rfl rfl ?_
 refine L_nil ?_
 refine Tsr hF rfl ?_
 refine lm rfl rfl rfl rfl rfl ?_
 refine lo rfl (pr_cv (zc_u64 y) Try.underlying3 Try.underlying22 rfl rfl) rfl rfl ?_
 refine lo rfl (pr_rem (a := (BitVec.ofInt 64 y).toNat) (b := 12) sd rfl rfl rfl) rfl rfl ?_
 refine lo rfl (pr_cv (ni_i64 (a := ((BitVec.ofInt 64 y).toNat) % 12) sd) Try.underlying22 Try.underlying3 rfl rfl) rfl rfl ?_
 obtain ⟨nn, hnn⟩ : ∃ x : Nat, ((BitVec.ofInt 64 y).toNat) % 12 = x := ⟨_, rfl⟩
 have hnl : nn < 12 := by omega
 have hrl : (List.replicate nn rc0).length = nn := List.length_replicate
 refine T_slot 10 (.int .i64 ((((BitVec.ofInt 64 y).toNat) % 12 : Nat) : Int)) (.int .i64 ((nn : Nat) : Int)) rfl (by rw [hnn]) ?_
 refine la rfl rfl rfl rfl rfl ?_
 refine L_nil ?_
 refine Tsr hF rfl ?_
 refine lm rfl rfl rfl rfl rfl ?_
 refine L_op rfl (op_makeR (n := nn) (c := nn) Try.underlying27 (bytes := 32) kr sd sd sd rfl rfl rfl rfl rfl (fun g1 => ?_))
 refine lm rfl rfl rfl rfl rfl ?_
 refine L_op rfl (op_cn (fun w hw => bpack_f (List.replicate nn rc0) z (some ⟨g1, 0, none⟩) nn nn w (hok_cons ((src_full (z := 4) 0 rfl (by rw [rcs_len]; simp) sd sd) w hw) (hok_nil w)) sd sd) (enters_of Try.func9 kr rfl) rfl rfl rfl rfl rfl (fun t2 q3 => ?_))
 obtain ⟨B4, e5⟩ := t2
 refine lm rfl rfl rfl rfl rfl ?_
 refine lo rfl (pr_ext (vs := [(.slice B4 (bpl nn z) e5), (.int .i64 (((bpe nn z) : Nat) : Int))]) rfl rfl rfl) rfl rfl ?_
 refine lo rfl (pr_ext (vs := [(.slice B4 (bpl nn z) e5), (.int .i64 (((bpe nn z) : Nat) : Int))]) rfl rfl rfl) rfl rfl ?_
 refine la rfl rfl rfl rfl rfl ?_
 refine la rfl rfl rfl rfl rfl ?_
 refine L_nil ?_
 refine T_seq ?_
 refine T_block ?_
 refine Tsr hF rfl ?_
 refine lm rfl rfl rfl rfl rfl ?_
 refine lo rfl (pr_cmp (bo := .lss) (k := .i64) (a := z) (b := ((1 : Nat) : Int)) (c := decide (z < ((1 : Nat) : Int))) rfl rfl rfl rfl rfl) rfl rfl ?_
 refine lm rfl rfl rfl rfl rfl ?_
 rcases Bool.eq_false_or_eq_true (decide (z < ((1 : Nat) : Int))) with hc_6 | hc_6
 ·
  refine T_slot 21 (.bool (decide (z < ((1 : Nat) : Int)))) (.bool true) rfl (congrArg _ hc_6) ?_
  refine T_slot 20 (.bool (decide (z < ((1 : Nat) : Int)))) (.bool true) rfl (congrArg _ hc_6) ?_
  have hc_6 := of_decide_eq_true hc_6
  refine L_skip rfl rfl rfl ?_
  refine L_skip rfl rfl rfl ?_
  refine lo rfl (pr_pick_t rfl rfl rfl) rfl rfl ?_
  refine la rfl rfl rfl rfl rfl ?_
  refine L_nil ?_
  refine T_cond_t rfl ?_
  refine Tsr hF rfl ?_
  refine L_op rfl (op_cn (fun w hw => awake10_f  w (hok_nil w) ) (enters_of Try.func10 kr rfl) rfl rfl rfl rfl rfl (fun t7 q8 => ?_))
  refine lm rfl rfl rfl rfl rfl ?_
  refine lm rfl rfl rfl rfl rfl ?_
  refine lo rfl (pr_cmp (bo := .eql) (nc_eq (a := (bpe nn z)) (b := 1)) rfl rfl rfl rfl) rfl rfl ?_
  refine lo rfl (pr_pick_t rfl rfl rfl) rfl rfl ?_
  refine lm rfl rfl rfl rfl rfl ?_
  refine T_slot 30 (.bool ((bpe nn z) == 1)) (.bool true) rfl (congrArg _ (by rw [bpe_arg (by omega)]; rfl)) ?_
  refine lm rfl rfl rfl rfl rfl ?_
  refine lo rfl (pr_len_sl Try.underlying23 rfl rfl) rfl rfl ?_
  refine lo rfl (pr_cmp (bo := .eql) (nc_eq (a := (bpl nn z)) (b := 0)) rfl rfl rfl rfl) rfl rfl ?_
  refine lo rfl (pr_pick_t rfl rfl rfl) rfl rfl ?_
  refine la rfl rfl rfl rfl rfl ?_
  refine L_nil ?_
  refine T_ret ?_
  refine T_slot 4 (.bool ((bpl nn z) == 0)) (.bool true) rfl (by first | rfl | (rw [bpl_arg (by omega)]; rfl) | (rw [bpl_lim (by omega) (by omega) (by assumption)]; rfl) | (rw [bpl_val (by omega) (by omega) (by assumption)]; simp)) ?_
  exact T_fin () (by first | trivial | omega | (simp; done)) (res1 rfl rfl) [] ⟨by decide, rfl⟩ rfl
 ·
  refine T_slot 21 (.bool (decide (z < ((1 : Nat) : Int)))) (.bool false) rfl (congrArg _ hc_6) ?_
  refine T_slot 20 (.bool (decide (z < ((1 : Nat) : Int)))) (.bool false) rfl (congrArg _ hc_6) ?_
  have hc_6 := of_decide_eq_false hc_6
  refine lm rfl rfl rfl rfl rfl ?_
  refine lo rfl (pr_cmp (bo := .gtr) (k := .i64) (a := z) (b := ((8 : Nat) : Int)) (c := decide (((8 : Nat) : Int) < z)) rfl rfl rfl rfl rfl) rfl rfl ?_
  refine lo rfl (pr_pick_f rfl rfl rfl) rfl rfl ?_
  refine la rfl rfl rfl rfl rfl ?_
  refine L_nil ?_
  refine T_cond (decide (((8 : Nat) : Int) < z)) rfl (fun hc_10 => ?_) (fun hc_10 => ?_)
  ·
   have hc_10 := of_decide_eq_true hc_10
   refine Tsr hF rfl ?_
   refine L_op rfl (op_cn (fun w hw => awake10_f  w (hok_nil w) ) (enters_of Try.func10 kr rfl) rfl rfl rfl rfl rfl (fun t11 q12 => ?_))
   refine lm rfl rfl rfl rfl rfl ?_
   refine lm rfl rfl rfl rfl rfl ?_
   refine lo rfl (pr_cmp (bo := .eql) (nc_eq (a := (bpe nn z)) (b := 1)) rfl rfl rfl rfl) rfl rfl ?_
   refine lo rfl (pr_pick_t rfl rfl rfl) rfl rfl ?_
   refine lm rfl rfl rfl rfl rfl ?_
   refine T_slot 30 (.bool ((bpe nn z) == 1)) (.bool true) rfl (congrArg _ (by rw [bpe_arg (by omega)]; rfl)) ?_
   refine lm rfl rfl rfl rfl rfl ?_
   refine lo rfl (pr_len_sl Try.underlying23 rfl rfl) rfl rfl ?_
   refine lo rfl (pr_cmp (bo := .eql) (nc_eq (a := (bpl nn z)) (b := 0)) rfl rfl rfl rfl) rfl rfl ?_
   refine lo rfl (pr_pick_t rfl rfl rfl) rfl rfl ?_
   refine la rfl rfl rfl rfl rfl ?_
   refine L_nil ?_
   refine T_ret ?_
   refine T_slot 4 (.bool ((bpl nn z) == 0)) (.bool true) rfl (by first | rfl | (rw [bpl_arg (by omega)]; rfl) | (rw [bpl_lim (by omega) (by omega) (by assumption)]; rfl) | (rw [bpl_val (by omega) (by omega) (by assumption)]; simp)) ?_
   exact T_fin () (by first | trivial | omega | (simp; done)) (res1 rfl rfl) [] ⟨by decide, rfl⟩ rfl
  ·
   have hc_10 := of_decide_eq_false hc_10
   refine Tsr hF rfl ?_
   refine lm rfl rfl rfl rfl rfl ?_
   refine lm rfl rfl rfl rfl rfl ?_
   refine lo rfl (pr_cmp (bo := .gtr) (k := .i64) (a := ((nn : Nat) : Int)) (b := z) (c := decide (z < ((nn : Nat) : Int))) rfl rfl rfl rfl rfl) rfl rfl ?_
   refine la rfl rfl rfl rfl rfl ?_
   refine L_nil ?_
   refine T_cond (decide (z < ((nn : Nat) : Int))) rfl (fun hc_14 => ?_) (fun hc_14 => ?_)
   ·
    have hc_14 := of_decide_eq_true hc_14
    refine Tsr hF rfl ?_
    refine L_op rfl (op_cn (fun w hw => awake10_f  w (hok_nil w) ) (enters_of Try.func10 kr rfl) rfl rfl rfl rfl rfl (fun t15 q16 => ?_))
    refine lm rfl rfl rfl rfl rfl ?_
    refine lm rfl rfl rfl rfl rfl ?_
    refine lo rfl (pr_cmp (bo := .eql) (nc_eq (a := (bpe nn z)) (b := 5)) rfl rfl rfl rfl) rfl rfl ?_
    refine lo rfl (pr_pick_t rfl rfl rfl) rfl rfl ?_
    refine lm rfl rfl rfl rfl rfl ?_
    refine T_slot 44 (.bool ((bpe nn z) == 5)) (.bool true) rfl (congrArg _ (by rw [bpe_lim (by omega) (by omega) (by assumption)]; rfl)) ?_
    refine lm rfl rfl rfl rfl rfl ?_
    refine lo rfl (pr_len_sl Try.underlying23 rfl rfl) rfl rfl ?_
    refine lo rfl (pr_cmp (bo := .eql) (nc_eq (a := (bpl nn z)) (b := 0)) rfl rfl rfl rfl) rfl rfl ?_
    refine lo rfl (pr_pick_t rfl rfl rfl) rfl rfl ?_
    refine la rfl rfl rfl rfl rfl ?_
    refine L_nil ?_
    refine T_ret ?_
    refine T_slot 4 (.bool ((bpl nn z) == 0)) (.bool true) rfl (by first | rfl | (rw [bpl_arg (by omega)]; rfl) | (rw [bpl_lim (by omega) (by omega) (by assumption)]; rfl) | (rw [bpl_val (by omega) (by omega) (by assumption)]; simp)) ?_
    exact T_fin () (by first | trivial | omega | (simp; done)) (res1 rfl rfl) [] ⟨by decide, rfl⟩ rfl
   ·
    have hc_14 := of_decide_eq_false hc_14
    refine T_skip ?_
    refine Tsr hF rfl ?_
    refine L_op rfl (op_cn (fun w hw => awake10_f  w (hok_nil w) ) (enters_of Try.func10 kr rfl) rfl rfl rfl rfl rfl (fun t18 q19 => ?_))
    refine lm rfl rfl rfl rfl rfl ?_
    refine lm rfl rfl rfl rfl rfl ?_
    refine lo rfl (pr_cmp (bo := .eql) (nc_eq (a := (bpe nn z)) (b := 0)) rfl rfl rfl rfl) rfl rfl ?_
    refine lo rfl (pr_pick_t rfl rfl rfl) rfl rfl ?_
    refine lm rfl rfl rfl rfl rfl ?_
    refine T_slot 54 (.bool ((bpe nn z) == 0)) (.bool true) rfl (congrArg _ (by rw [bpe_ok (by omega) (by omega) (by assumption)]; rfl)) ?_
    refine lm rfl rfl rfl rfl rfl ?_
    refine lo rfl (pr_len_sl Try.underlying23 rfl rfl) rfl rfl ?_
    refine lm rfl rfl rfl rfl rfl ?_
    refine lo rfl (pr_mul (zw_i64 (z := (((32 : Nat) : Int) * z)) sd) rfl rfl rfl) rfl rfl ?_
    refine lo rfl (pr_cmp (bo := .eql) (k := .i64) (a := (((bpl nn z) : Nat) : Int)) (b := (((32 : Nat) : Int) * z)) (c := ((((bpl nn z) : Nat) : Int) == (((32 : Nat) : Int) * z))) rfl rfl rfl rfl rfl) rfl rfl ?_
    refine lo rfl (pr_pick_t rfl rfl rfl) rfl rfl ?_
    refine la rfl rfl rfl rfl rfl ?_
    refine L_nil ?_
    refine T_ret ?_
    refine T_slot 4 _ (.bool true) rfl (by first | rfl | (rw [bpl_arg (by omega)]; rfl) | (rw [bpl_lim (by omega) (by omega) (by assumption)]; rfl) | (rw [bpl_val (by omega) (by omega) (by assumption)]; simp)) ?_
    exact T_fin () (by first | trivial | omega | (simp; done)) (res1 rfl rfl) [] ⟨by decide, rfl⟩ rfl
end Go.Proofs.Ytlplpmkdebemnaa
