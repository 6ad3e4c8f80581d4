/- The law BlockPacks, by facts. No conditions. -/
import Derived.Test.YtlplpmkdebemnaaGLBlA
import Derived.Test.YtlplpmkdebemnaaGBlk2
import Derived.Test.YtlplpmkdebemnaaGHlpR
import Derived.Test.YtlplpmkdebemnaaProg
import Derived.Test.YtlplpmkdebemnaaFwU
namespace Go.Proofs.Ytlplpmkdebemnaa
set_option linter.unusedVariables false
set_option linter.unusedSimpArgs false
set_option linter.unnecessarySimpa false
set_option maxRecDepth 100000
open Go.RowKit Bv Fw

theorem btn_le (b : List (BitVec 8)) (z : Int) : btn b z ≤ 8 := by
  unfold btn
  split
  · rename_i h
    unfold bte at h
    split at h
    · cases h
    · omega
  · omega

set_option maxHeartbeats 4000000 in
theorem blockPacks_f (xs : List Rc) (A : Option Addr) (n : Nat) (c : Nat) (z : Int) (b : List (BitVec 8)) (B : Option Addr) (q : Nat) (e : Nat) (w : World) (hO : HOK [.rd A 4 n c (rcs xs), .rd B 1 q e (b.map b8)] w) (hx : xs.length = n) (hb : b.length = q) : Calls Try.prog 5 [(.slice A n c), (.int .i64 z), (.slice B q e)].toArray w (Ret (T := Unit) [] w (fun _ => True) (fun _ => (.bool true)) (fun _ => [])) := by
 have hbl := btk_len b z
 have hbn := btn_le b z
 have hF : Wid Fence.wide := wid_wide
 refine enter (c := _) Try.func5 rfl [] _ [.rd A 4 n c (rcs xs), .rd B 1 q e (b.map b8)] (by rw [Try.ntmps5]; rfl) (own_rds hO rfl) ?_
 rw [Try.ntmps5]
 refine T_re [(0, (.slice A n c)), (1, (.int .i64 z)), (2, (.slice B q e))] (sc rfl (sc rfl (sc rfl sn))) ?_
 refine T_he [0, 1] [.rd A 4 n c (rcs xs), .rd B 1 q e (b.map b8)] ⟨by decide, rfl⟩ ?_
 refine Tsr hF rfl ?_
 refine la rfl rfl rfl rfl rfl ?_
 refine L_nil ?_
 refine T_seq ?_
 refine Tsr hF rfl ?_
 refine lm rfl rfl rfl rfl rfl ?_
 refine lo rfl (pr_len_sl Try.underlying27 rfl rfl) rfl rfl ?_
 refine lo rfl (pr_cmp (bo := .gtr) (nc_lt (a := 50) (b := n)) rfl rfl rfl rfl) rfl rfl ?_
 refine lm rfl rfl rfl rfl rfl ?_
 rcases Bool.eq_false_or_eq_true (decide (50 < n)) with hc_1 | hc_1
 ·
  refine T_slot 20 (.bool (decide (50 < n))) (.bool true) rfl (congrArg _ hc_1) ?_
  refine T_slot 19 (.bool (decide (50 < n))) (.bool true) rfl (congrArg _ hc_1) ?_
  have hc_1 := of_decide_eq_true hc_1
  refine L_skip rfl rfl rfl ?_
  refine L_skip rfl rfl rfl ?_
  refine L_skip rfl rfl rfl ?_
  refine lo rfl (pr_pick_t rfl rfl rfl) rfl rfl ?_
  refine L_nil ?_
  refine T_cond_t rfl ?_
  refine Tsr hF rfl ?_
  refine L_op rfl (op_cn (fun w hw => awake10_f  w (hok_nil w) ) (enters_of Try.func10 kr rfl) rfl rfl rfl rfl rfl (fun t2 q3 => ?_))
  refine la rfl rfl rfl rfl rfl ?_
  refine L_nil ?_
  refine T_ret ?_
  exact T_fin () (by first | trivial | omega | (simp; done)) (res1 rfl rfl) [] ⟨by decide, rfl⟩ rfl
 ·
  refine T_slot 20 (.bool (decide (50 < n))) (.bool false) rfl (congrArg _ hc_1) ?_
  refine T_slot 19 (.bool (decide (50 < n))) (.bool false) rfl (congrArg _ hc_1) ?_
  have hc_1 := of_decide_eq_false hc_1
  refine lm rfl rfl rfl rfl rfl ?_
  refine lo rfl (pr_len_sl Try.underlying23 rfl rfl) rfl rfl ?_
  refine lo rfl (pr_cmp (bo := .gtr) (nc_lt (a := 1000) (b := q)) rfl rfl rfl rfl) rfl rfl ?_
  refine lo rfl (pr_pick_f rfl rfl rfl) rfl rfl ?_
  refine L_nil ?_
  refine T_cond (decide (1000 < q)) rfl (fun hc_4 => ?_) (fun hc_4 => ?_)
  ·
   have hc_4 := of_decide_eq_true hc_4
   refine Tsr hF rfl ?_
   refine L_op rfl (op_cn (fun w hw => awake10_f  w (hok_nil w) ) (enters_of Try.func10 kr rfl) rfl rfl rfl rfl rfl (fun t5 q6 => ?_))
   refine la rfl rfl rfl rfl rfl ?_
   refine L_nil ?_
   refine T_ret ?_
   exact T_fin () (by first | trivial | omega | (simp; done)) (res1 rfl rfl) [] ⟨by decide, rfl⟩ rfl
  ·
   have hc_4 := of_decide_eq_false hc_4
   refine T_skip ?_
   refine Tsr hF rfl ?_
   refine lm rfl rfl rfl rfl rfl ?_
   refine lo rfl (pr_build (qs := [(1, (.int .i64 ((71 : Nat) : Int)))]) (v := .agg [(.bool false), (.int .i64 ((71 : Nat) : Int)), (.int .i64 ((0 : Nat) : Int)), (.int .i64 ((0 : Nat) : Int))].toArray) (fun _ => by kernel_rfl) rfl rfl) rfl rfl ?_
   refine L_op rfl (op_cn (fun w hw => rown_f xs A n c false (71#64) (0#64) (0#64) w (hok_cons ((src_rd 0 rfl) w hw) (hok_nil w)) sd sd) (enters_of Try.func19 kr rfl) rfl rfl rfl rfl rfl (fun t7 q8 => ?_))
   obtain ⟨B9, e10⟩ := t7
   have q8 : n + 3 ≤ e10 := q8
   refine lm rfl rfl rfl rfl rfl ?_
   refine L_op rfl (op_cn (fun w hw => own_f b (71#8) B q e w (hok_cons ((src_rd 3 rfl) w hw) (hok_nil w)) sd sd) (enters_of Try.func12 kr rfl) rfl rfl rfl rfl rfl (fun t11 q12 => ?_))
   obtain ⟨B13, d14⟩ := t11
   have q12 : q + 3 ≤ d14 := q12
   refine la rfl rfl rfl rfl rfl ?_
   refine la rfl rfl rfl rfl rfl ?_
   refine L_nil ?_
   refine Tsr hF rfl ?_
   refine lm rfl rfl rfl rfl rfl ?_
   refine lm rfl rfl rfl rfl rfl ?_
   refine L_op rfl (op_cn (fun w hw => bpack_f xs z B9 n e10 w (hok_cons ((src_old 3 rfl) w hw) (hok_nil w)) sd sd) (enters_of Try.func9 kr rfl) rfl rfl rfl rfl rfl (fun t15 q16 => ?_))
   obtain ⟨B17, e18⟩ := t15
   refine lm rfl rfl rfl rfl rfl ?_
   refine lo rfl (pr_ext (vs := [(.slice B17 (bpl n z) e18), (.int .i64 (((bpe n z) : Nat) : Int))]) rfl rfl rfl) rfl rfl ?_
   refine lo rfl (pr_ext (vs := [(.slice B17 (bpl n z) e18), (.int .i64 (((bpe n z) : Nat) : Int))]) rfl rfl rfl) rfl rfl ?_
   refine la rfl rfl rfl rfl rfl ?_
   refine la rfl rfl rfl rfl rfl ?_
   refine L_nil ?_
   refine Tsr hF rfl ?_
   refine lm rfl rfl rfl rfl rfl ?_
   refine lm rfl rfl rfl rfl rfl ?_
   refine L_op rfl (op_cn (fun w hw => rbpack_f xs z A n c w (hok_cons ((src_rd 5 rfl) w hw) (hok_nil w)) sd sd) (enters_of Try.func20 kr rfl) rfl rfl rfl rfl rfl (fun t19 q20 => ?_))
   obtain ⟨B21, e22⟩ := t19
   refine lm rfl rfl rfl rfl rfl ?_
   refine lo rfl (pr_ext (vs := [(.slice B21 (bpl n z) e22), (.int .i64 (((bpe n z) : Nat) : Int))]) rfl rfl rfl) rfl rfl ?_
   refine lo rfl (pr_ext (vs := [(.slice B21 (bpl n z) e22), (.int .i64 (((bpe n z) : Nat) : Int))]) rfl rfl rfl) rfl rfl ?_
   refine la rfl rfl rfl rfl rfl ?_
   refine la rfl rfl rfl rfl rfl ?_
   refine L_nil ?_
   refine Tsr hF rfl ?_
   refine lm rfl rfl rfl rfl rfl ?_
   refine lm rfl rfl rfl rfl rfl ?_
   refine L_op rfl (op_cn (fun w hw => btake_f b z B13 q d14 w (hok_cons ((src_old 3 rfl) w hw) (hok_nil w)) sd sd) (enters_of Try.func21 kr rfl) rfl rfl rfl rfl rfl (fun t23 q24 => ?_))
   obtain ⟨B25, e26⟩ := t23
   refine lm rfl rfl rfl rfl rfl ?_
   refine lo rfl (pr_ext (vs := [(.slice B25 (btn b z) e26), (.int .i64 (((bte b z) : Nat) : Int))]) rfl rfl rfl) rfl rfl ?_
   refine lo rfl (pr_ext (vs := [(.slice B25 (btn b z) e26), (.int .i64 (((bte b z) : Nat) : Int))]) rfl rfl rfl) rfl rfl ?_
   refine la rfl rfl rfl rfl rfl ?_
   refine la rfl rfl rfl rfl rfl ?_
   refine L_nil ?_
   refine Tsr hF rfl ?_
   refine lm rfl rfl rfl rfl rfl ?_
   refine lm rfl rfl rfl rfl rfl ?_
   refine L_op rfl (op_cn (fun w hw => rbtake_f b z B q e w (hok_cons ((src_rd 8 rfl) w hw) (hok_nil w)) sd sd) (enters_of Try.func22 kr rfl) rfl rfl rfl rfl rfl (fun t27 q28 => ?_))
   obtain ⟨B29, e30⟩ := t27
   refine lm rfl rfl rfl rfl rfl ?_
   refine lo rfl (pr_ext (vs := [(.slice B29 (btn b z) e30), (.int .i64 (((bte b z) : Nat) : Int))]) rfl rfl rfl) rfl rfl ?_
   refine lo rfl (pr_ext (vs := [(.slice B29 (btn b z) e30), (.int .i64 (((bte b z) : Nat) : Int))]) rfl rfl rfl) rfl rfl ?_
   refine la rfl rfl rfl rfl rfl ?_
   refine la rfl rfl rfl rfl rfl ?_
   refine L_nil ?_
   refine Tsr hF rfl ?_
   refine L_op rfl (op_cn (fun w hw => awake10_f  w (hok_nil w) ) (enters_of Try.func10 kr rfl) rfl rfl rfl rfl rfl (fun t31 q32 => ?_))
   refine lm rfl rfl rfl rfl rfl ?_
   refine lm rfl rfl rfl rfl rfl ?_
   refine lm rfl rfl rfl rfl rfl ?_
   refine L_op rfl (op_cn (fun w hw => bytes_f (bpb xs z) (bpb xs z) B17 (bpl n z) e18 B21 (bpl n z) e22 w (hok_cons ((src_row 3 rfl) w hw) (hok_cons ((src_row 2 rfl) w hw) (hok_nil w))) ) (enters_of Try.func15 kr rfl) rfl rfl rfl rfl rfl (fun t33 q34 => ?_))
   refine lo rfl (pr_pick_t rfl rfl rfl) rfl rfl ?_
   refine lm rfl rfl rfl rfl rfl ?_
   refine T_slot 61 (.bool (decide ((bpb xs z) = (bpb xs z)))) (.bool true) rfl (congrArg _ (by simp)) ?_
   refine lm rfl rfl rfl rfl rfl ?_
   refine lm rfl rfl rfl rfl rfl ?_
   refine lo rfl (pr_cmp (bo := .eql) (nc_eq (a := (bpe n z)) (b := (bpe n z))) rfl rfl rfl rfl) rfl rfl ?_
   refine lo rfl (pr_pick_t rfl rfl rfl) rfl rfl ?_
   refine lm rfl rfl rfl rfl rfl ?_
   refine T_slot 66 (.bool ((bpe n z) == (bpe n z))) (.bool true) rfl (congrArg _ (by simp)) ?_
   refine lm rfl rfl rfl rfl rfl ?_
   refine lm rfl rfl rfl rfl rfl ?_
   refine L_op rfl (op_cn (fun w hw => rplain_f (btk b z) B25 (btn b z) e26 B29 e30 w (hok_cons ((src_row 1 rfl) w hw) (hok_cons ((src_row 0 rfl) w hw) (hok_nil w))) sd sd) (enters_of Try.func23 kr rfl) rfl rfl rfl rfl rfl (fun t37 q38 => ?_))
   refine lo rfl (pr_pick_t rfl rfl rfl) rfl rfl ?_
   refine lm rfl rfl rfl rfl rfl ?_
   refine lm rfl rfl rfl rfl rfl ?_
   refine lm rfl rfl rfl rfl rfl ?_
   refine lo rfl (pr_cmp (bo := .eql) (nc_eq (a := (bte b z)) (b := (bte b z))) rfl rfl rfl rfl) rfl rfl ?_
   refine lo rfl (pr_pick_t rfl rfl rfl) rfl rfl ?_
   refine lm rfl rfl rfl rfl rfl ?_
   refine T_slot 76 (.bool ((bte b z) == (bte b z))) (.bool true) rfl (congrArg _ (by simp)) ?_
   refine lm rfl rfl rfl rfl rfl ?_
   refine L_op rfl (op_cn (fun w hw => bsize_f z w (hok_nil w) ) (enters_of Try.func24 kr rfl) rfl rfl rfl rfl rfl (fun t40 q41 => ?_))
   refine lm rfl rfl rfl rfl rfl ?_
   refine L_op rfl (op_cn (fun w hw => rbsize_f z w (hok_nil w) ) (enters_of Try.func25 kr rfl) rfl rfl rfl rfl rfl (fun t42 q43 => ?_))
   refine lo rfl (pr_cmp (bo := .eql) (k := .i64) (a := (bsz z)) (b := (bsz z)) (c := ((bsz z) == (bsz z))) rfl rfl rfl rfl rfl) rfl rfl ?_
   refine lo rfl (pr_pick_t rfl rfl rfl) rfl rfl ?_
   refine lm rfl rfl rfl rfl rfl ?_
   refine T_slot 83 (.bool ((bsz z) == (bsz z))) (.bool true) rfl (congrArg _ (by simp)) ?_
   refine lm rfl rfl rfl rfl rfl ?_
   refine lm rfl rfl rfl rfl rfl ?_
   refine lo rfl (pr_build (qs := [(1, (.int .i64 ((71 : Nat) : Int)))]) (v := .agg [(.bool false), (.int .i64 ((71 : Nat) : Int)), (.int .i64 ((0 : Nat) : Int)), (.int .i64 ((0 : Nat) : Int))].toArray) (fun _ => by kernel_rfl) rfl rfl) rfl rfl ?_
   refine L_op rfl (op_cn (fun w hw => rkept_f xs B9 n e10 A c false (71#64) (0#64) (0#64) w (hok_cons ((src_old 7 rfl) w hw) (hok_cons ((src_old 6 rfl) w hw) (hok_cons ((src_rd 8 rfl) w hw) (hok_nil w)))) sd sd sd) (enters_of Try.func26 kr rfl) rfl rfl rfl rfl rfl (fun t45 q46 => ?_))
   refine lo rfl (pr_pick_t rfl rfl rfl) rfl rfl ?_
   refine lm rfl rfl rfl rfl rfl ?_
   refine lm rfl rfl rfl rfl rfl ?_
   refine lm rfl rfl rfl rfl rfl ?_
   refine L_op rfl (op_cn (fun w hw => kept_f b (71#8) B13 q d14 B e w (hok_cons ((src_old 5 rfl) w hw) (hok_cons ((src_old 4 rfl) w hw) (hok_cons ((src_rd 9 rfl) w hw) (hok_nil w)))) sd sd sd) (enters_of Try.func18 kr rfl) rfl rfl rfl rfl rfl (fun t47 q48 => ?_))
   refine lo rfl (pr_pick_t rfl rfl rfl) rfl rfl ?_
   refine la rfl rfl rfl rfl rfl ?_
   refine L_nil ?_
   refine T_ret ?_
   exact T_fin () (by first | trivial | omega | (simp; done)) (res1 rfl rfl) [] ⟨by decide, rfl⟩ rfl
end Go.Proofs.Ytlplpmkdebemnaa
