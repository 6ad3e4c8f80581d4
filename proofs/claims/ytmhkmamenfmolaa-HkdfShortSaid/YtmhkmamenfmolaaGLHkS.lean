/- HkdfShort, walked by facts. -/
import Derived.Test.YtmhkmamenfmolaaGLHkA
import Derived.Test.YtmhkmamenfmolaaProg
import Derived.Test.YtmhkmamenfmolaaFwU
namespace Go.Proofs.Ytmhkmamenfmolaa
set_option linter.unusedVariables false
set_option linter.unusedSimpArgs false
set_option linter.unnecessarySimpa false
open Go.RowKit Bv Fw

theorem mactag_nil0 (t : List (BitVec 8)) : mactag (List.replicate 32 0#8) t = mactag [] t := by
  have := mactag_zeros [] t 32 (by simp)
  rwa [List.nil_append] at this

set_option maxRecDepth 100000 in
set_option maxHeartbeats 4000000 in
theorem hkdfShort_f (salt : List (BitVec 8)) (A : Option Addr) (n : Nat) (c : Nat) (key : List (BitVec 8)) (B : Option Addr) (nt : Nat) (d : Nat) (info : List (BitVec 8)) (E : Option Addr) (ni : Nat) (ce : Nat) (z : Int) (y : Int) (w : World) (hO : HOK [.rd A 1 n c (salt.map b8), .rd B 1 nt d (key.map b8), .rd E 1 ni ce (info.map b8)] w) (hx : salt.length = n) (ht : key.length = nt) (hi : info.length = ni) : Calls Try.prog 14 [(.slice A n c), (.slice B nt d), (.slice E ni ce), (.int .i64 z), (.int .i64 y)].toArray w (Ret (T := Unit) [] w (fun _ => True) (fun _ => (.bool true)) (fun _ => [])) := by
  have hml := mactag_len salt key
  have hml2 := mactag_len [] key
  have hkl := hkdf_len (mactag salt key) info 32 (by omega)
  have hF : Wid Fence.wide := wid_wide
  refine enter (c := _) Try.func14 rfl [] [(.slice A n c), (.slice B nt d), (.slice E ni ce), (.int .i64 z), (.int .i64 y)] [.rd A 1 n c (salt.map b8), .rd B 1 nt d (key.map b8), .rd E 1 ni ce (info.map b8)] (by rw [Try.ntmps14]; rfl) (own_rds hO rfl) ?_
  rw [Try.ntmps14]
  refine T_re [(0, (.slice A n c)), (1, (.slice B nt d)), (2, (.slice E ni ce)), (3, (.int .i64 z)), (4, (.int .i64 y))] (sc rfl (sc rfl (sc rfl (sc rfl (sc rfl sn))))) ?_
  refine T_he [0, 1, 2] [.rd A 1 n c (salt.map b8), .rd B 1 nt d (key.map b8), .rd E 1 ni ce (info.map b8)] ⟨by decide, rfl⟩ ?_
  refine T_seq ?_
  refine T_reg hF rfl ?_
  refine L_op rfl (op_pr (pr_assign rfl rfl) rfl rfl ?_)
  refine L_nil ?_
  refine T_re [(0, (.slice A n c)), (1, (.slice B nt d)), (2, (.slice E ni ce)), (3, (.int .i64 z)), (4, (.int .i64 y))] (sc rfl (sc rfl (sc rfl (sc rfl (sc rfl sn))))) ?_
  refine T_he [0, 1, 2] [.rd A 1 n c (salt.map b8), .rd B 1 nt d (key.map b8), .rd E 1 ni ce (info.map b8)] ⟨by decide, rfl⟩ ?_
  refine T_seq ?_
  refine T_seq ?_
  refine T_reg hF rfl ?_
  refine L_op rfl (op_pr (pr_move rfl rfl) rfl rfl ?_)
  refine L_op rfl (op_pr (pr_len_sl Try.underlying24 rfl rfl) rfl rfl ?_)
  refine L_op rfl (op_pr (pr_cmp (bo := .gtr) (nc_lt (a := 300) (b := n)) rfl rfl rfl rfl) rfl rfl ?_)
  refine L_op rfl (op_pr (pr_move rfl rfl) rfl rfl ?_)
  rcases Bool.eq_false_or_eq_true (decide (300 < n)) with hc_1 | hc_1
  · skip
    refine T_slot 22 (.bool (decide (300 < n))) (.bool true) rfl (congrArg _ hc_1) ?_
    refine T_slot 21 (.bool (decide (300 < n))) (.bool true) rfl (congrArg _ hc_1) ?_
    have hc_1 := of_decide_eq_true hc_1
    refine L_skip rfl rfl rfl ?_
    refine L_skip rfl rfl rfl ?_
    refine L_skip rfl rfl rfl ?_
    refine L_op rfl (op_pr (pr_pick_t rfl rfl rfl) rfl rfl ?_)
    refine L_op rfl (op_pr (pr_move rfl rfl) rfl rfl ?_)
    refine L_skip rfl rfl rfl ?_
    refine L_skip rfl rfl rfl ?_
    refine L_skip rfl rfl rfl ?_
    refine L_op rfl (op_pr (pr_pick_t rfl rfl rfl) rfl rfl ?_)
    refine L_nil ?_
    refine T_re [(0, (.slice A n c)), (1, (.slice B nt d)), (2, (.slice E ni ce)), (3, (.int .i64 z)), (4, (.int .i64 y)), (31, (.bool true))] (sc rfl (sc rfl (sc rfl (sc rfl (sc rfl (sc rfl sn)))))) ?_
    refine T_he [0, 1, 2] [.rd A 1 n c (salt.map b8), .rd B 1 nt d (key.map b8), .rd E 1 ni ce (info.map b8)] ⟨by decide, rfl⟩ ?_
    refine T_cond_t rfl ?_
    refine T_seq ?_
    refine T_reg hF rfl ?_
    refine L_op rfl (op_call0 (vs := []) (cap := []) (fun w hw => awake4_f  w (hok_nil w) ) (enters_of Try.func29 (by kernel_rfl) rfl) rfl rfl rfl rfl rfl (fun t2 q3 => ?_))
    refine L_op rfl (op_pr (pr_assign rfl rfl) rfl rfl ?_)
    refine L_nil ?_
    refine T_re [(10, (.bool true))] (sc rfl sn) ?_
    refine T_he [0, 1, 2] [.rd A 1 n c (salt.map b8), .rd B 1 nt d (key.map b8), .rd E 1 ni ce (info.map b8)] ⟨by decide, rfl⟩ ?_
    refine T_ret ?_
    exact T_fin () (by first | trivial | omega | (simp; done)) (res1 rfl rfl) [] ⟨by decide, rfl⟩ rfl
  · skip
    refine T_slot 22 (.bool (decide (300 < n))) (.bool false) rfl (congrArg _ hc_1) ?_
    refine T_slot 21 (.bool (decide (300 < n))) (.bool false) rfl (congrArg _ hc_1) ?_
    have hc_1 := of_decide_eq_false hc_1
    refine L_op rfl (op_pr (pr_move rfl rfl) rfl rfl ?_)
    refine L_op rfl (op_pr (pr_len_sl Try.underlying24 rfl rfl) rfl rfl ?_)
    refine L_op rfl (op_pr (pr_cmp (bo := .gtr) (nc_lt (a := 300) (b := nt)) rfl rfl rfl rfl) rfl rfl ?_)
    refine L_op rfl (op_pr (pr_pick_f rfl rfl rfl) rfl rfl ?_)
    refine L_op rfl (op_pr (pr_move rfl rfl) rfl rfl ?_)
    rcases Bool.eq_false_or_eq_true (decide (300 < nt)) with hc_4 | hc_4
    · skip
      refine T_slot 27 (.bool (decide (300 < nt))) (.bool true) rfl (congrArg _ hc_4) ?_
      refine T_slot 25 (.bool (decide (300 < nt))) (.bool true) rfl (congrArg _ hc_4) ?_
      refine T_slot 26 (.bool (decide (300 < nt))) (.bool true) rfl (congrArg _ hc_4) ?_
      have hc_4 := of_decide_eq_true hc_4
      refine L_skip rfl rfl rfl ?_
      refine L_skip rfl rfl rfl ?_
      refine L_skip rfl rfl rfl ?_
      refine L_op rfl (op_pr (pr_pick_t rfl rfl rfl) rfl rfl ?_)
      refine L_nil ?_
      refine T_re [(0, (.slice A n c)), (1, (.slice B nt d)), (2, (.slice E ni ce)), (3, (.int .i64 z)), (4, (.int .i64 y)), (31, (.bool true))] (sc rfl (sc rfl (sc rfl (sc rfl (sc rfl (sc rfl sn)))))) ?_
      refine T_he [0, 1, 2] [.rd A 1 n c (salt.map b8), .rd B 1 nt d (key.map b8), .rd E 1 ni ce (info.map b8)] ⟨by decide, rfl⟩ ?_
      refine T_cond_t rfl ?_
      refine T_seq ?_
      refine T_reg hF rfl ?_
      refine L_op rfl (op_call0 (vs := []) (cap := []) (fun w hw => awake4_f  w (hok_nil w) ) (enters_of Try.func29 (by kernel_rfl) rfl) rfl rfl rfl rfl rfl (fun t5 q6 => ?_))
      refine L_op rfl (op_pr (pr_assign rfl rfl) rfl rfl ?_)
      refine L_nil ?_
      refine T_re [(10, (.bool true))] (sc rfl sn) ?_
      refine T_he [0, 1, 2] [.rd A 1 n c (salt.map b8), .rd B 1 nt d (key.map b8), .rd E 1 ni ce (info.map b8)] ⟨by decide, rfl⟩ ?_
      refine T_ret ?_
      exact T_fin () (by first | trivial | omega | (simp; done)) (res1 rfl rfl) [] ⟨by decide, rfl⟩ rfl
    · skip
      refine T_slot 27 (.bool (decide (300 < nt))) (.bool false) rfl (congrArg _ hc_4) ?_
      refine T_slot 25 (.bool (decide (300 < nt))) (.bool false) rfl (congrArg _ hc_4) ?_
      refine T_slot 26 (.bool (decide (300 < nt))) (.bool false) rfl (congrArg _ hc_4) ?_
      have hc_4 := of_decide_eq_false hc_4
      refine L_op rfl (op_pr (pr_move rfl rfl) rfl rfl ?_)
      refine L_op rfl (op_pr (pr_len_sl Try.underlying24 rfl rfl) rfl rfl ?_)
      refine L_op rfl (op_pr (pr_cmp (bo := .gtr) (nc_lt (a := 300) (b := ni)) rfl rfl rfl rfl) rfl rfl ?_)
      refine L_op rfl (op_pr (pr_pick_f rfl rfl rfl) rfl rfl ?_)
      refine L_nil ?_
      refine T_re [(0, (.slice A n c)), (1, (.slice B nt d)), (2, (.slice E ni ce)), (3, (.int .i64 z)), (4, (.int .i64 y)), (31, (.bool (decide (300 < ni))))] (sc rfl (sc rfl (sc rfl (sc rfl (sc rfl (sc rfl sn)))))) ?_
      refine T_he [0, 1, 2] [.rd A 1 n c (salt.map b8), .rd B 1 nt d (key.map b8), .rd E 1 ni ce (info.map b8)] ⟨by decide, rfl⟩ ?_
      refine T_cond (decide (300 < ni)) rfl (fun hc_7 => ?_) (fun hc_7 => ?_)
      · skip
        have hc_7 := of_decide_eq_true hc_7
        refine T_seq ?_
        refine T_reg hF rfl ?_
        refine L_op rfl (op_call0 (vs := []) (cap := []) (fun w hw => awake4_f  w (hok_nil w) ) (enters_of Try.func29 (by kernel_rfl) rfl) rfl rfl rfl rfl rfl (fun t8 q9 => ?_))
        refine L_op rfl (op_pr (pr_assign rfl rfl) rfl rfl ?_)
        refine L_nil ?_
        refine T_re [(10, (.bool true))] (sc rfl sn) ?_
        refine T_he [0, 1, 2] [.rd A 1 n c (salt.map b8), .rd B 1 nt d (key.map b8), .rd E 1 ni ce (info.map b8)] ⟨by decide, rfl⟩ ?_
        refine T_ret ?_
        exact T_fin () (by first | trivial | omega | (simp; done)) (res1 rfl rfl) [] ⟨by decide, rfl⟩ rfl
      · skip
        have hc_7 := of_decide_eq_false hc_7
        refine T_skip ?_
        refine T_seq ?_
        refine T_reg hF rfl ?_
        refine L_op rfl (op_pr (pr_move rfl rfl) rfl rfl ?_)
        refine L_op rfl (op_pr (pr_cv (zc_u64 z) Try.underlying3 Try.underlying37 rfl rfl) rfl rfl ?_)
        refine L_op rfl (op_pr (pr_rem (a := (BitVec.ofInt 64 z).toNat) (b := 300) sd rfl rfl rfl) rfl rfl ?_)
        refine L_op rfl (op_pr (pr_cv (ni_i64 (a := ((BitVec.ofInt 64 z).toNat) % 300) sd) Try.underlying37 Try.underlying3 rfl rfl) rfl rfl ?_)
        refine L_op rfl (op_pr (pr_add (na_i64 (a := 1) (b := ((BitVec.ofInt 64 z).toNat) % 300) sd) rfl rfl rfl) rfl rfl ?_)
        refine L_op rfl (op_pr (pr_assign rfl rfl) rfl rfl ?_)
        refine L_nil ?_
        obtain ⟨nn, hn_nn⟩ : ∃ x : Nat, 1 + (((BitVec.ofInt 64 z).toNat) % 300) = x := ⟨_, rfl⟩
        have hnb : 1 ≤ nn ∧ nn ≤ 300 := by omega
        have hk2 := hkdf_len (mactag salt key) info nn (by omega)
        have hlt2 := Nat.mod_lt ((BitVec.ofInt 64 y).toNat) (show 0 < nn by omega)
        refine T_slot 3 (.int .i64 ((1 + (((BitVec.ofInt 64 z).toNat) % 300) : Nat) : Int)) (.int .i64 ((nn : Nat) : Int)) rfl (by rw [hn_nn]) ?_
        refine T_re [(0, (.slice A n c)), (1, (.slice B nt d)), (2, (.slice E ni ce)), (3, (.int .i64 ((nn : Nat) : Int))), (4, (.int .i64 y))] (sc rfl (sc rfl (sc rfl (sc rfl (sc rfl sn))))) ?_
        refine T_he [0, 1, 2] [.rd A 1 n c (salt.map b8), .rd B 1 nt d (key.map b8), .rd E 1 ni ce (info.map b8)] ⟨by decide, rfl⟩ ?_
        refine T_seq ?_
        refine T_reg hF rfl ?_
        refine L_op rfl (op_pr (pr_move rfl rfl) rfl rfl ?_)
        refine L_op rfl (op_pr (pr_cv (zc_u64 y) Try.underlying3 Try.underlying37 rfl rfl) rfl rfl ?_)
        refine L_op rfl (op_pr (pr_move rfl rfl) rfl rfl ?_)
        refine L_op rfl (op_pr (pr_cv (ni_u64 (a := nn) sd) Try.underlying3 Try.underlying37 rfl rfl) rfl rfl ?_)
        refine L_op rfl (op_pr (pr_rem (a := (BitVec.ofInt 64 y).toNat) (b := nn) sd rfl rfl rfl) rfl rfl ?_)
        refine L_op rfl (op_pr (pr_cv (ni_i64 (a := ((BitVec.ofInt 64 y).toNat) % nn) sd) Try.underlying37 Try.underlying3 rfl rfl) rfl rfl ?_)
        refine L_op rfl (op_pr (pr_add (na_i64 (a := 1) (b := ((BitVec.ofInt 64 y).toNat) % nn) sd) rfl rfl rfl) rfl rfl ?_)
        refine L_op rfl (op_pr (pr_assign rfl rfl) rfl rfl ?_)
        refine L_nil ?_
        obtain ⟨mm, hn_mm⟩ : ∃ x : Nat, 1 + (((BitVec.ofInt 64 y).toNat) % nn) = x := ⟨_, rfl⟩
        have hmb : 1 ≤ mm ∧ mm ≤ nn := by omega
        have hk3 := hkdf_len (mactag salt key) info mm (by omega)
        refine T_slot 4 (.int .i64 ((1 + (((BitVec.ofInt 64 y).toNat) % nn) : Nat) : Int)) (.int .i64 ((mm : Nat) : Int)) rfl (by rw [hn_mm]) ?_
        refine T_re [(0, (.slice A n c)), (1, (.slice B nt d)), (2, (.slice E ni ce)), (3, (.int .i64 ((nn : Nat) : Int))), (4, (.int .i64 ((mm : Nat) : Int)))] (sc rfl (sc rfl (sc rfl (sc rfl (sc rfl sn))))) ?_
        refine T_he [0, 1, 2] [.rd A 1 n c (salt.map b8), .rd B 1 nt d (key.map b8), .rd E 1 ni ce (info.map b8)] ⟨by decide, rfl⟩ ?_
        refine T_seq ?_
        refine T_reg hF rfl ?_
        refine L_op rfl (op_pr (pr_move rfl rfl) rfl rfl ?_)
        refine L_op rfl (op_pr (pr_move rfl rfl) rfl rfl ?_)
        refine L_op rfl (op_call0 (vs := [(.slice A n c), (.slice B nt d)]) (cap := []) (fun w hw => extract_f salt A n c key B nt d w (hok_cons ((src_rd 0 rfl) w hw) (hok_cons ((src_rd 1 rfl) w hw) (hok_nil w))) (by first | assumption | omega | (simp; done) | (simp; omega)) sd (by first | assumption | omega | (simp; done) | (simp; omega)) sd) (enters_of Try.func31 (by kernel_rfl) rfl) rfl rfl rfl rfl rfl (fun t10 q11 => ?_))
        refine L_op rfl (op_alloc (z := .agg ((List.replicate 32 0#8).map b8).toArray) (zs := ((List.replicate 32 0#8).map b8)) (by kernel_rfl) rfl rfl rfl rfl (fun g12 => ?_))
        refine L_op rfl (op_store (vs := ((mactag salt key).map b8)) (cs' := ((mactag salt key).map b8)) 0 rfl rfl (by rw [show (((mactag salt key).map b8)).length = 32 from sd]; kernel_rfl) (all8_one _) (by have h1 : (((List.replicate 32 0#8).map b8)).length = 32 := (by kernel_rfl); have h2 : (((mactag salt key).map b8)).length = 32 := sd; omega) (splice_all (Eq.trans (b := 32) (by kernel_rfl) (Eq.symm sd))) rfl rfl rfl rfl ?_)
        refine L_nil ?_
        refine T_re [(0, (.slice A n c)), (1, (.slice B nt d)), (2, (.slice E ni ce)), (3, (.int .i64 ((nn : Nat) : Int))), (4, (.int .i64 ((mm : Nat) : Int))), (11, (.pointer (some ⟨g12, 0, none⟩)))] (sc rfl (sc rfl (sc rfl (sc rfl (sc rfl (sc rfl sn)))))) ?_
        refine T_he [0, 1, 2, 3] [.blk g12 26 ((mactag salt key).map b8), .rd A 1 n c (salt.map b8), .rd B 1 nt d (key.map b8), .rd E 1 ni ce (info.map b8)] ⟨by decide, rfl⟩ ?_
        refine T_seq ?_
        refine T_reg hF rfl ?_
        refine L_op rfl (op_ld (ld_agg (ds := ((mactag salt key).map b8)) 0 rfl agg_all Try.underlying26 rfl (by rw [show (((mactag salt key).map b8)).length = 32 from sd]; kernel_rfl) rfl rfl) rfl rfl ?_)
        refine L_op rfl (op_pr (pr_move rfl rfl) rfl rfl ?_)
        refine L_op rfl (op_pr (pr_move rfl rfl) rfl rfl ?_)
        refine L_op rfl (op_call0 (vs := [(.agg ((mactag salt key).map b8).toArray), (.slice E ni ce), (.int .i64 ((nn : Nat) : Int))]) (cap := []) (fun w hw => expand_f (mactag salt key) info E ni ce nn w (hok_cons ((src_rd 3 rfl) w hw) (hok_nil w)) (by first | assumption | omega | (simp; done) | (simp; omega)) (by first | assumption | omega | (simp; done) | (simp; omega)) sd sd sd) (enters_of Try.func30 (by kernel_rfl) rfl) rfl rfl rfl rfl rfl (fun t13 q14 => ?_))
        obtain ⟨B15, eB15⟩ : ∃ x, x = t13 := ⟨_, rfl⟩
        subst eB15
        refine L_op rfl (op_pr (pr_move rfl rfl) rfl rfl ?_)
        refine L_op rfl (op_pr (pr_ext (vs := [(.slice B15 nn nn), (.int .i64 ((0 : Nat) : Int))]) rfl rfl rfl) rfl rfl ?_)
        refine T_tord 0 rfl ?_
        refine L_op rfl (op_pr (pr_ext (vs := [(.slice B15 nn nn), (.int .i64 ((0 : Nat) : Int))]) rfl rfl rfl) rfl rfl ?_)
        refine L_op rfl (op_pr (pr_assign rfl rfl) rfl rfl ?_)
        refine L_op rfl (op_pr (pr_assign rfl rfl) rfl rfl ?_)
        refine L_nil ?_
        refine T_re [(0, (.slice A n c)), (1, (.slice B nt d)), (2, (.slice E ni ce)), (3, (.int .i64 ((nn : Nat) : Int))), (4, (.int .i64 ((mm : Nat) : Int))), (11, (.pointer (some ⟨g12, 0, none⟩))), (12, (.slice B15 nn nn)), (13, (.int .i64 ((0 : Nat) : Int)))] (sc rfl (sc rfl (sc rfl (sc rfl (sc rfl (sc rfl (sc rfl (sc rfl sn)))))))) ?_
        refine T_he [0, 1, 2, 3, 4] [.rd B15 1 nn nn ((hkdf (mactag salt key) info nn).map b8), .blk g12 26 ((mactag salt key).map b8), .rd A 1 n c (salt.map b8), .rd B 1 nt d (key.map b8), .rd E 1 ni ce (info.map b8)] ⟨by decide, rfl⟩ ?_
        refine T_seq ?_
        refine T_reg hF rfl ?_
        refine L_op rfl (op_ld (ld_agg (ds := ((mactag salt key).map b8)) 1 rfl agg_all Try.underlying26 rfl (by rw [show (((mactag salt key).map b8)).length = 32 from sd]; kernel_rfl) rfl rfl) rfl rfl ?_)
        refine L_op rfl (op_pr (pr_move rfl rfl) rfl rfl ?_)
        refine L_op rfl (op_pr (pr_move rfl rfl) rfl rfl ?_)
        refine L_op rfl (op_call0 (vs := [(.agg ((mactag salt key).map b8).toArray), (.slice E ni ce), (.int .i64 ((mm : Nat) : Int))]) (cap := []) (fun w hw => expand_f (mactag salt key) info E ni ce mm w (hok_cons ((src_rd 4 rfl) w hw) (hok_nil w)) (by first | assumption | omega | (simp; done) | (simp; omega)) (by first | assumption | omega | (simp; done) | (simp; omega)) sd sd sd) (enters_of Try.func30 (by kernel_rfl) rfl) rfl rfl rfl rfl rfl (fun t16 q17 => ?_))
        obtain ⟨B18, eB18⟩ : ∃ x, x = t16 := ⟨_, rfl⟩
        subst eB18
        refine L_op rfl (op_pr (pr_move rfl rfl) rfl rfl ?_)
        refine L_op rfl (op_pr (pr_ext (vs := [(.slice B18 mm mm), (.int .i64 ((0 : Nat) : Int))]) rfl rfl rfl) rfl rfl ?_)
        refine T_tord 0 rfl ?_
        refine L_op rfl (op_pr (pr_ext (vs := [(.slice B18 mm mm), (.int .i64 ((0 : Nat) : Int))]) rfl rfl rfl) rfl rfl ?_)
        refine L_op rfl (op_pr (pr_assign rfl rfl) rfl rfl ?_)
        refine L_op rfl (op_pr (pr_assign rfl rfl) rfl rfl ?_)
        refine L_nil ?_
        refine T_re [(0, (.slice A n c)), (1, (.slice B nt d)), (2, (.slice E ni ce)), (3, (.int .i64 ((nn : Nat) : Int))), (4, (.int .i64 ((mm : Nat) : Int))), (11, (.pointer (some ⟨g12, 0, none⟩))), (12, (.slice B15 nn nn)), (13, (.int .i64 ((0 : Nat) : Int))), (14, (.slice B18 mm mm)), (15, (.int .i64 ((0 : Nat) : Int)))] (sc rfl (sc rfl (sc rfl (sc rfl (sc rfl (sc rfl (sc rfl (sc rfl (sc rfl (sc rfl sn)))))))))) ?_
        refine T_he [0, 1, 2, 3, 4, 5] [.rd B18 1 mm mm ((hkdf (mactag salt key) info mm).map b8), .rd B15 1 nn nn ((hkdf (mactag salt key) info nn).map b8), .blk g12 26 ((mactag salt key).map b8), .rd A 1 n c (salt.map b8), .rd B 1 nt d (key.map b8), .rd E 1 ni ce (info.map b8)] ⟨by decide, rfl⟩ ?_
        refine T_seq ?_
        refine T_reg hF rfl ?_
        refine L_op rfl (op_ld (ld_agg (ds := ((mactag salt key).map b8)) 2 rfl agg_all Try.underlying26 rfl (by rw [show (((mactag salt key).map b8)).length = 32 from sd]; kernel_rfl) rfl rfl) rfl rfl ?_)
        refine L_op rfl (op_pr (pr_move rfl rfl) rfl rfl ?_)
        refine L_op rfl (op_call0 (vs := [(.agg ((mactag salt key).map b8).toArray), (.slice E ni ce), (.int .i64 ((32 : Nat) : Int))]) (cap := []) (fun w hw => expand_f (mactag salt key) info E ni ce 32 w (hok_cons ((src_rd 5 rfl) w hw) (hok_nil w)) (by first | assumption | omega | (simp; done) | (simp; omega)) (by first | assumption | omega | (simp; done) | (simp; omega)) sd sd sd) (enters_of Try.func30 (by kernel_rfl) rfl) rfl rfl rfl rfl rfl (fun t19 q20 => ?_))
        obtain ⟨B21, eB21⟩ : ∃ x, x = t19 := ⟨_, rfl⟩
        subst eB21
        refine L_op rfl (op_pr (pr_move rfl rfl) rfl rfl ?_)
        refine L_op rfl (op_pr (pr_ext (vs := [(.slice B21 32 32), (.int .i64 ((0 : Nat) : Int))]) rfl rfl rfl) rfl rfl ?_)
        refine T_tord 0 rfl ?_
        refine L_op rfl (op_pr (pr_ext (vs := [(.slice B21 32 32), (.int .i64 ((0 : Nat) : Int))]) rfl rfl rfl) rfl rfl ?_)
        refine L_op rfl (op_pr (pr_assign rfl rfl) rfl rfl ?_)
        refine L_op rfl (op_pr (pr_assign rfl rfl) rfl rfl ?_)
        refine L_nil ?_
        refine T_re [(0, (.slice A n c)), (1, (.slice B nt d)), (2, (.slice E ni ce)), (3, (.int .i64 ((nn : Nat) : Int))), (4, (.int .i64 ((mm : Nat) : Int))), (12, (.slice B15 nn nn)), (13, (.int .i64 ((0 : Nat) : Int))), (14, (.slice B18 mm mm)), (15, (.int .i64 ((0 : Nat) : Int))), (16, (.slice B21 32 32)), (17, (.int .i64 ((0 : Nat) : Int)))] (sc rfl (sc rfl (sc rfl (sc rfl (sc rfl (sc rfl (sc rfl (sc rfl (sc rfl (sc rfl (sc rfl sn))))))))))) ?_
        refine T_he [0, 1, 2, 3, 4, 5, 6] [.rd B21 1 32 32 ((hkdf (mactag salt key) info 32).map b8), .rd B18 1 mm mm ((hkdf (mactag salt key) info mm).map b8), .rd B15 1 nn nn ((hkdf (mactag salt key) info nn).map b8), .blk g12 26 ((mactag salt key).map b8), .rd A 1 n c (salt.map b8), .rd B 1 nt d (key.map b8), .rd E 1 ni ce (info.map b8)] ⟨by decide, rfl⟩ ?_
        refine T_seq ?_
        refine T_reg hF rfl ?_
        refine L_op rfl (op_pr (pr_move rfl rfl) rfl rfl ?_)
        refine L_op rfl (op_pr (pr_move rfl rfl) rfl rfl ?_)
        refine L_op rfl (op_pr (pr_move rfl rfl) rfl rfl ?_)
        refine L_op rfl (op_call0 (vs := [(.slice A n c), (.slice B nt d), (.slice E ni ce)]) (cap := []) (fun w hw => key_f salt A n c key B nt d info E ni ce w (hok_cons ((src_rd 4 rfl) w hw) (hok_cons ((src_rd 5 rfl) w hw) (hok_cons ((src_rd 6 rfl) w hw) (hok_nil w)))) (by first | assumption | omega | (simp; done) | (simp; omega)) sd (by first | assumption | omega | (simp; done) | (simp; omega)) sd (by first | assumption | omega | (simp; done) | (simp; omega)) sd) (enters_of Try.func34 (by kernel_rfl) rfl) rfl rfl rfl rfl rfl (fun t22 q23 => ?_))
        refine L_op rfl (op_alloc (z := .agg ((List.replicate 32 0#8).map b8).toArray) (zs := ((List.replicate 32 0#8).map b8)) (by kernel_rfl) rfl rfl rfl rfl (fun g24 => ?_))
        refine L_op rfl (op_store (vs := ((hkdf (mactag salt key) info 32).map b8)) (cs' := ((hkdf (mactag salt key) info 32).map b8)) 0 rfl rfl (by rw [show (((hkdf (mactag salt key) info 32).map b8)).length = 32 from sd]; kernel_rfl) (all8_one _) (by have h1 : (((List.replicate 32 0#8).map b8)).length = 32 := (by kernel_rfl); have h2 : (((hkdf (mactag salt key) info 32).map b8)).length = 32 := sd; omega) (splice_all (Eq.trans (b := 32) (by kernel_rfl) (Eq.symm sd))) rfl rfl rfl rfl ?_)
        refine L_nil ?_
        refine T_re [(1, (.slice B nt d)), (3, (.int .i64 ((nn : Nat) : Int))), (4, (.int .i64 ((mm : Nat) : Int))), (12, (.slice B15 nn nn)), (13, (.int .i64 ((0 : Nat) : Int))), (14, (.slice B18 mm mm)), (15, (.int .i64 ((0 : Nat) : Int))), (16, (.slice B21 32 32)), (17, (.int .i64 ((0 : Nat) : Int))), (18, (.pointer (some ⟨g24, 0, none⟩)))] (sc rfl (sc rfl (sc rfl (sc rfl (sc rfl (sc rfl (sc rfl (sc rfl (sc rfl (sc rfl sn)))))))))) ?_
        refine T_he [0, 1, 2, 3, 4, 5, 6, 7] [.blk g24 26 ((hkdf (mactag salt key) info 32).map b8), .rd B21 1 32 32 ((hkdf (mactag salt key) info 32).map b8), .rd B18 1 mm mm ((hkdf (mactag salt key) info mm).map b8), .rd B15 1 nn nn ((hkdf (mactag salt key) info nn).map b8), .blk g12 26 ((mactag salt key).map b8), .rd A 1 n c (salt.map b8), .rd B 1 nt d (key.map b8), .rd E 1 ni ce (info.map b8)] ⟨by decide, rfl⟩ ?_
        refine T_seq ?_
        refine T_regD [.blk g24 26 ((hkdf (mactag salt key) info 32).map b8), .rd B21 1 32 32 ((hkdf (mactag salt key) info 32).map b8), .rd B18 1 mm mm ((hkdf (mactag salt key) info mm).map b8), .rd B15 1 nn nn ((hkdf (mactag salt key) info nn).map b8), .blk g12 26 ((mactag salt key).map b8), .rd A 1 n c (salt.map b8), .rd B 1 nt d (key.map b8), .rd E 1 ni ce (info.map b8)] 40 40 #[false, false, false, false, false, false, false, false, false, false, false, false, false, false, false, false, false, false, false, false, false, false, false, false, false, false, false, false, false, false, false, false, false, false, false, false, false, false, false, false] hF (by kernel_rfl) (by kernel_rfl) ?_
        refine D_one 0 _ rfl (by kernel_rfl) rfl (op_call0 (vs := []) (cap := []) (fun w hw => awake4_f  w (hok_nil w) ) (enters_of Try.func29 (by kernel_rfl) rfl) rfl rfl rfl rfl rfl (fun t25 q26 => ?_))
        refine D_on [0, 1, 2, 3, 4, 5, 6, 7] rfl ?_
        refine D_pure (i := 1) [0, 1, 2, 3, 4, 5, 6, 7] rfl (by kernel_rfl) rfl (pr_move rfl rfl) (.inr rfl) rfl rfl ?_
        refine D_pure (i := 2) [0, 1, 2, 3, 4, 5, 6, 7] rfl (by kernel_rfl) rfl (pr_move rfl rfl) (.inr rfl) rfl rfl ?_
        refine D_pure (i := 3) [0, 1, 2, 3, 4, 5, 6, 7] rfl (by kernel_rfl) rfl (pr_cmp (bo := .eql) (nc_eq (a := 0) (b := 0)) rfl rfl rfl rfl) (.inr rfl) rfl rfl ?_
        refine D_pure (i := 4) [0, 1, 2, 3, 4, 5, 6, 7] rfl (by kernel_rfl) rfl (pr_pick_t rfl rfl rfl) (.inr rfl) rfl rfl ?_
        refine D_pure (i := 5) [0, 1, 2, 3, 4, 5, 6, 7] rfl (by kernel_rfl) rfl (pr_move rfl rfl) (.inr rfl) rfl rfl ?_
        refine D_pure (i := 6) [0, 1, 2, 3, 4, 5, 6, 7] rfl (by kernel_rfl) rfl (pr_move rfl rfl) (.inr rfl) rfl rfl ?_
        refine D_pure (i := 7) [0, 1, 2, 3, 4, 5, 6, 7] rfl (by kernel_rfl) rfl (pr_cmp (bo := .eql) (nc_eq (a := 0) (b := 0)) rfl rfl rfl rfl) (.inr rfl) rfl rfl ?_
        refine D_pure (i := 8) [0, 1, 2, 3, 4, 5, 6, 7] rfl (by kernel_rfl) rfl (pr_pick_t rfl rfl rfl) (.inr rfl) rfl rfl ?_
        refine D_pure (i := 9) [0, 1, 2, 3, 4, 5, 6, 7] rfl (by kernel_rfl) rfl (pr_move rfl rfl) (.inr rfl) rfl rfl ?_
        refine D_pure (i := 10) [0, 1, 2, 3, 4, 5, 6, 7] rfl (by kernel_rfl) rfl (pr_move rfl rfl) (.inr rfl) rfl rfl ?_
        refine D_pure (i := 11) [0, 1, 2, 3, 4, 5, 6, 7] rfl (by kernel_rfl) rfl (pr_cmp (bo := .eql) (nc_eq (a := 0) (b := 0)) rfl rfl rfl rfl) (.inr rfl) rfl rfl ?_
        refine D_pure (i := 12) [0, 1, 2, 3, 4, 5, 6, 7] rfl (by kernel_rfl) rfl (pr_pick_t rfl rfl rfl) (.inr rfl) rfl rfl ?_
        refine D_pure (i := 13) [0, 1, 2, 3, 4, 5, 6, 7] rfl (by kernel_rfl) rfl (pr_move rfl rfl) (.inr rfl) rfl rfl ?_
        refine D_pure (i := 14) [0, 1, 2, 3, 4, 5, 6, 7] rfl (by kernel_rfl) rfl (pr_move rfl rfl) (.inr rfl) rfl rfl ?_
        refine D_pure (i := 15) [0, 1, 2, 3, 4, 5, 6, 7] rfl (by kernel_rfl) rfl (pr_len_sl Try.underlying24 rfl rfl) (.inr rfl) rfl rfl ?_
        refine D_pure (i := 16) [0, 1, 2, 3, 4, 5, 6, 7] rfl (by kernel_rfl) rfl (pr_move rfl rfl) (.inr rfl) rfl rfl ?_
        refine D_pure (i := 17) [0, 1, 2, 3, 4, 5, 6, 7] rfl (by kernel_rfl) rfl (pr_cmp (bo := .eql) (nc_eq (a := nn) (b := nn)) rfl rfl rfl rfl) (.inr rfl) rfl rfl ?_
        refine D_pure (i := 18) [0, 1, 2, 3, 4, 5, 6, 7] rfl (by kernel_rfl) rfl (pr_pick_t rfl rfl rfl) (.inr rfl) rfl rfl ?_
        refine D_pure (i := 19) [0, 1, 2, 3, 4, 5, 6, 7] rfl (by kernel_rfl) rfl (pr_move rfl rfl) (.inr rfl) rfl rfl ?_
        refine T_slot 89 (.bool (nn == nn)) (.bool true) rfl (congrArg _ (by simp)) ?_
        refine T_slot 90 (.bool (nn == nn)) (.bool true) rfl (congrArg _ (by simp)) ?_
        refine T_slot 91 (.bool (nn == nn)) (.bool true) rfl (congrArg _ (by simp)) ?_
        refine D_pure (i := 20) [0, 1, 2, 3, 4, 5, 6, 7] rfl (by kernel_rfl) rfl (pr_move rfl rfl) (.inr rfl) rfl rfl ?_
        refine D_pure (i := 21) [0, 1, 2, 3, 4, 5, 6, 7] rfl (by kernel_rfl) rfl (pr_move rfl rfl) (.inr rfl) rfl rfl ?_
        refine D_pure (i := 23) [0, 1, 2, 3, 4, 5, 6, 7] rfl (by kernel_rfl) rfl (pr_move rfl rfl) (.inr rfl) rfl rfl ?_
        refine D_one 22 _ rfl (by kernel_rfl) rfl (op_slice_rd (l := 0) (u := mm) 3 rfl sd sd Try.underlying24 (by kernel_rfl) rfl rfl rfl ⟨_, rfl⟩ rfl rfl (fun B27 => ?_))
        refine T_as 0 _ (.rd B27 1 mm nn ((List.take mm (hkdf (mactag salt key) info nn)).map b8)) rfl (by congr 1; simp [List.map_take, List.map_drop] <;> omega) ?_
        refine T_slot 94 _ (.slice B27 mm nn) rfl (by congr 1) ?_
        refine D_on [1, 2, 3, 4, 5, 6, 7, 8] rfl ?_
        refine D_one 24 _ rfl (by kernel_rfl) rfl (op_call0 (vs := [(.slice B27 mm nn), (.slice B18 mm mm)]) (cap := []) (fun w hw => bytes_f (List.take mm (hkdf (mactag salt key) info nn)) (hkdf (mactag salt key) info mm) B27 mm nn B18 mm mm w (hok_cons ((src_rd 0 rfl) w hw) (hok_cons ((src_rd 3 rfl) w hw) (hok_nil w))) ) (enters_of Try.func23 (by kernel_rfl) rfl) rfl rfl rfl rfl rfl (fun t28 q29 => ?_))
        refine D_on [1, 2, 3, 4, 5, 6, 7, 8] rfl ?_
        refine D_pure (i := 25) [1, 2, 3, 4, 5, 6, 7, 8] rfl (by kernel_rfl) rfl (pr_pick_t rfl rfl rfl) (.inr rfl) rfl rfl ?_
        refine D_pure (i := 26) [1, 2, 3, 4, 5, 6, 7, 8] rfl (by kernel_rfl) rfl (pr_move rfl rfl) (.inr rfl) rfl rfl ?_
        refine T_slot 96 (.bool (decide ((List.take mm (hkdf (mactag salt key) info nn)) = (hkdf (mactag salt key) info mm)))) (.bool true) rfl (congrArg _ (by rw [hkdf_take _ _ _ _ (by omega)]; simp)) ?_
        refine T_slot 97 (.bool (decide ((List.take mm (hkdf (mactag salt key) info nn)) = (hkdf (mactag salt key) info mm)))) (.bool true) rfl (congrArg _ (by rw [hkdf_take _ _ _ _ (by omega)]; simp)) ?_
        refine T_slot 98 (.bool (decide ((List.take mm (hkdf (mactag salt key) info nn)) = (hkdf (mactag salt key) info mm)))) (.bool true) rfl (congrArg _ (by rw [hkdf_take _ _ _ _ (by omega)]; simp)) ?_
        refine D_pure (i := 27) [1, 2, 3, 4, 5, 6, 7, 8] rfl (by kernel_rfl) rfl (pr_move rfl rfl) (.inr rfl) rfl rfl ?_
        refine D_pure (i := 28) [1, 2, 3, 4, 5, 6, 7, 8] rfl (by kernel_rfl) rfl (pr_sla (l := 0) (u := 32) (m := 0) sd sd sd rfl Try.underlying26 (z := 1) (by kernel_rfl) rfl rfl rfl rfl) (.inr rfl) rfl rfl ?_
        refine D_one 29 _ rfl (by kernel_rfl) rfl (op_call0 (vs := [(.slice B21 32 32), (.slice (some ⟨g24, 0, none⟩) 32 32)]) (cap := []) (fun w hw => bytes_f (hkdf (mactag salt key) info 32) (hkdf (mactag salt key) info 32) B21 32 32 (some ⟨g24, 0, none⟩) 32 32 w (hok_cons ((src_rd 2 rfl) w hw) (hok_cons ((src_full (z := 1) 1 rfl sd sd sd) w hw) (hok_nil w))) ) (enters_of Try.func23 (by kernel_rfl) rfl) rfl rfl rfl rfl rfl (fun t30 q31 => ?_))
        refine D_on [1, 2, 3, 4, 5, 6, 7, 8] rfl ?_
        refine D_pure (i := 30) [1, 2, 3, 4, 5, 6, 7, 8] rfl (by kernel_rfl) rfl (pr_pick_t rfl rfl rfl) (.inr rfl) rfl rfl ?_
        refine D_pure (i := 31) [1, 2, 3, 4, 5, 6, 7, 8] rfl (by kernel_rfl) rfl (pr_move rfl rfl) (.inr rfl) rfl rfl ?_
        refine T_slot 101 (.bool (decide ((hkdf (mactag salt key) info 32) = (hkdf (mactag salt key) info 32)))) (.bool true) rfl (congrArg _ (by simp)) ?_
        refine T_slot 102 (.bool (decide ((hkdf (mactag salt key) info 32) = (hkdf (mactag salt key) info 32)))) (.bool true) rfl (congrArg _ (by simp)) ?_
        refine T_slot 103 (.bool (decide ((hkdf (mactag salt key) info 32) = (hkdf (mactag salt key) info 32)))) (.bool true) rfl (congrArg _ (by simp)) ?_
        refine D_pure (i := 32) [1, 2, 3, 4, 5, 6, 7, 8] rfl (by kernel_rfl) rfl (pr_move rfl rfl) (.inr rfl) rfl rfl ?_
        refine D_pure (i := 35) [1, 2, 3, 4, 5, 6, 7, 8] rfl (by kernel_rfl) rfl (pr_move rfl rfl) (.inr rfl) rfl rfl ?_
        refine D_join (T := Unit) (fun _ => True) (fun _ => [(10, (.bool ((mactag [] key) == (mactag [] key))))]) (fun _ => [.rd B27 1 mm nn ((List.take mm (hkdf (mactag salt key) info nn)).map b8), .blk g24 26 ((hkdf (mactag salt key) info 32).map b8), .rd B21 1 32 32 ((hkdf (mactag salt key) info 32).map b8), .rd B18 1 mm mm ((hkdf (mactag salt key) info mm).map b8), .rd B15 1 nn nn ((hkdf (mactag salt key) info nn).map b8), .blk g12 26 ((mactag salt key).map b8), .rd A 1 n c (salt.map b8), .rd B 1 nt d (key.map b8), .rd E 1 ni ce (info.map b8)]) ?_ ?_
        · skip
          refine D_all [33, 34] (by kernel_rfl) (by simp) ⟨⟨_, rfl, rfl, ?_⟩, ⟨_, rfl, rfl, ?_⟩, trivial⟩
          · skip
            refine id (op_call0 (vs := [(.slice none 0 0), (.slice B nt d)]) (cap := []) (fun w hw => extract_f [] none 0 0 key B nt d w (hok_cons ((src_nil 1) w hw) (hok_cons ((src_rd 7 rfl) w hw) (hok_nil w))) (by first | assumption | omega | (simp; done) | (simp; omega)) sd (by first | assumption | omega | (simp; done) | (simp; omega)) sd) (enters_of Try.func31 (by kernel_rfl) rfl) rfl rfl rfl rfl rfl (fun t37 q38 => ?_))
            refine D_on [1, 2, 3, 4, 5, 6, 7, 8] rfl ?_
            refine D_one 34 _ rfl (by kernel_rfl) rfl (op_make (z := (b8 (0#8))) (n := 32) (c := 32) Try.underlying24 (bytes := 1) (by kernel_rfl) rfl sd sd sd rfl rfl rfl rfl rfl (fun g39 => ?_))
            refine T_as 0 _ (.blk g39 5 ((List.replicate 32 0#8).map b8)) rfl (by rw [List.map_replicate]) ?_
            refine D_on [2, 3, 4, 5, 6, 7, 8, 9] rfl ?_
            refine D_one 36 _ rfl (by kernel_rfl) rfl (op_call0 (vs := [(.slice (some ⟨g39, 0, none⟩) 32 32), (.slice B nt d)]) (cap := []) (fun w hw => extract_f (List.replicate 32 0#8) (some ⟨g39, 0, none⟩) 32 32 key B nt d w (hok_cons ((src_full (z := 1) 0 rfl sd sd sd) w hw) (hok_cons ((src_rd 8 rfl) w hw) (hok_nil w))) (by first | assumption | omega | (simp; done) | (simp; omega)) sd (by first | assumption | omega | (simp; done) | (simp; omega)) sd) (enters_of Try.func31 (by kernel_rfl) rfl) rfl rfl rfl rfl rfl (fun t40 q41 => ?_))
            refine T_slot 108 (.agg ((mactag (List.replicate 32 0#8) key).map b8).toArray) (.agg ((mactag [] key).map b8).toArray) rfl (by rw [mactag_nil0]) ?_
            refine D_on [2, 3, 4, 5, 6, 7, 8, 9] rfl ?_
            refine D_pure (i := 37) [2, 3, 4, 5, 6, 7, 8, 9] rfl (by kernel_rfl) rfl (pr_eqagg (bo := .eql) (c := ((mactag [] key) == (mactag [] key))) (r := ((mactag [] key) == (mactag [] key))) (eqb8 (xs := (mactag [] key)) (ys := (mactag [] key)) Try.underlying26 Try.underlying5 (by kernel_rfl) sd sd) (by kernel_rfl) rfl rfl rfl rfl rfl) (.inr rfl) rfl rfl ?_
            refine D_pure (i := 38) [2, 3, 4, 5, 6, 7, 8, 9] rfl (by kernel_rfl) rfl (pr_pick_t rfl rfl rfl) (.inr rfl) rfl rfl ?_
            refine D_pure (i := 39) [2, 3, 4, 5, 6, 7, 8, 9] rfl (by kernel_rfl) rfl (pr_assign rfl rfl) (.inr rfl) rfl rfl ?_
            refine D_done (by kernel_rfl) ?_
            exact T_meet () trivial (sc rfl sn) [1, 2, 3, 4, 5, 6, 7, 8, 9] ⟨by decide, rfl⟩
          · skip
            refine id (op_make (z := (b8 (0#8))) (n := 32) (c := 32) Try.underlying24 (bytes := 1) (by kernel_rfl) rfl sd sd sd rfl rfl rfl rfl rfl (fun g42 => ?_))
            refine T_as 0 _ (.blk g42 5 ((List.replicate 32 0#8).map b8)) rfl (by rw [List.map_replicate]) ?_
            refine D_on [2, 3, 4, 5, 6, 7, 8, 9] rfl ?_
            refine D_one 33 _ rfl (by kernel_rfl) rfl (op_call0 (vs := [(.slice none 0 0), (.slice B nt d)]) (cap := []) (fun w hw => extract_f [] none 0 0 key B nt d w (hok_cons ((src_nil 1) w hw) (hok_cons ((src_rd 8 rfl) w hw) (hok_nil w))) (by first | assumption | omega | (simp; done) | (simp; omega)) sd (by first | assumption | omega | (simp; done) | (simp; omega)) sd) (enters_of Try.func31 (by kernel_rfl) rfl) rfl rfl rfl rfl rfl (fun t43 q44 => ?_))
            refine D_on [2, 3, 4, 5, 6, 7, 8, 9] rfl ?_
            refine D_one 36 _ rfl (by kernel_rfl) rfl (op_call0 (vs := [(.slice (some ⟨g42, 0, none⟩) 32 32), (.slice B nt d)]) (cap := []) (fun w hw => extract_f (List.replicate 32 0#8) (some ⟨g42, 0, none⟩) 32 32 key B nt d w (hok_cons ((src_full (z := 1) 0 rfl sd sd sd) w hw) (hok_cons ((src_rd 8 rfl) w hw) (hok_nil w))) (by first | assumption | omega | (simp; done) | (simp; omega)) sd (by first | assumption | omega | (simp; done) | (simp; omega)) sd) (enters_of Try.func31 (by kernel_rfl) rfl) rfl rfl rfl rfl rfl (fun t45 q46 => ?_))
            refine T_slot 108 (.agg ((mactag (List.replicate 32 0#8) key).map b8).toArray) (.agg ((mactag [] key).map b8).toArray) rfl (by rw [mactag_nil0]) ?_
            refine D_on [2, 3, 4, 5, 6, 7, 8, 9] rfl ?_
            refine D_pure (i := 37) [2, 3, 4, 5, 6, 7, 8, 9] rfl (by kernel_rfl) rfl (pr_eqagg (bo := .eql) (c := ((mactag [] key) == (mactag [] key))) (r := ((mactag [] key) == (mactag [] key))) (eqb8 (xs := (mactag [] key)) (ys := (mactag [] key)) Try.underlying26 Try.underlying5 (by kernel_rfl) sd sd) (by kernel_rfl) rfl rfl rfl rfl rfl) (.inr rfl) rfl rfl ?_
            refine D_pure (i := 38) [2, 3, 4, 5, 6, 7, 8, 9] rfl (by kernel_rfl) rfl (pr_pick_t rfl rfl rfl) (.inr rfl) rfl rfl ?_
            refine D_pure (i := 39) [2, 3, 4, 5, 6, 7, 8, 9] rfl (by kernel_rfl) rfl (pr_assign rfl rfl) (.inr rfl) rfl rfl ?_
            refine D_done (by kernel_rfl) ?_
            exact T_meet () trivial (sc rfl sn) [1, 2, 3, 4, 5, 6, 7, 8, 9] ⟨by decide, rfl⟩
        · rintro ⟨⟩ -
          refine T_re [(10, (.bool ((mactag [] key) == (mactag [] key))))] (sc rfl sn) ?_
          refine T_he [0, 1, 2, 3, 4, 5, 6, 7, 8] [.rd B27 1 mm nn ((List.take mm (hkdf (mactag salt key) info nn)).map b8), .blk g24 26 ((hkdf (mactag salt key) info 32).map b8), .rd B21 1 32 32 ((hkdf (mactag salt key) info 32).map b8), .rd B18 1 mm mm ((hkdf (mactag salt key) info mm).map b8), .rd B15 1 nn nn ((hkdf (mactag salt key) info nn).map b8), .blk g12 26 ((mactag salt key).map b8), .rd A 1 n c (salt.map b8), .rd B 1 nt d (key.map b8), .rd E 1 ni ce (info.map b8)] ⟨by decide, rfl⟩ ?_
          refine T_ret ?_
          refine T_slot 10 (.bool ((mactag [] key) == (mactag [] key))) (.bool true) rfl (by simp) ?_
          exact T_fin () (by first | trivial | omega | (simp; done)) (res1 rfl rfl) [] ⟨by decide, rfl⟩ rfl
end Go.Proofs.Ytmhkmamenfmolaa
