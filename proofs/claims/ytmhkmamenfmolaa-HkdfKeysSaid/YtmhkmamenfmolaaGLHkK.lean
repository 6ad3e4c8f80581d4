/- HkdfKeys, walked by facts. -/
import Derived.Test.YtmhkmamenfmolaaGLHkA
import Derived.Test.YtmhkmamenfmolaaProg
import Derived.Test.YtmhkmamenfmolaaFwU
namespace Go.Proofs.Ytmhkmamenfmolaa
set_option linter.unusedVariables false
set_option linter.unusedSimpArgs false
set_option linter.unnecessarySimpa false
open Go.RowKit Bv Fw

set_option maxRecDepth 100000 in
set_option maxHeartbeats 4000000 in
theorem keys_mid_f (salt : List (BitVec 8)) (A : Option Addr) (n : Nat) (c : Nat) (key : List (BitVec 8)) (B : Option Addr) (nt : Nat) (d : Nat) (info : List (BitVec 8)) (E : Option Addr) (ni : Nat) (ce : Nat) (nn : Nat) (w : World) (hO : HOK [.rd A 1 n c (salt.map b8), .rd B 1 nt d (key.map b8), .rd E 1 ni ce (info.map b8)] w) (hx : salt.length = n) (ht : key.length = nt) (hi : info.length = ni) (h1 : 1 ≤ nn) (h2 : nn ≤ 8160) : Calls Try.prog 13 [(.slice A n c), (.slice B nt d), (.slice E ni ce), (.int .i64 ((nn : Nat) : Int))].toArray w (Ret (T := Unit) [] w (fun _ => True) (fun _ => (.bool true)) (fun _ => [])) := by
  have hml := mactag_len salt key
  have hkl := hkdf_len (mactag salt key) info 32 (by omega)
  have hF : Wid Fence.wide := wid_wide
  refine enter (c := _) Try.func13 rfl [] [(.slice A n c), (.slice B nt d), (.slice E ni ce), (.int .i64 ((nn : Nat) : Int))] [.rd A 1 n c (salt.map b8), .rd B 1 nt d (key.map b8), .rd E 1 ni ce (info.map b8)] (by rw [Try.ntmps13]; rfl) (own_rds hO rfl) ?_
  rw [Try.ntmps13]
  refine T_re [(0, (.slice A n c)), (1, (.slice B nt d)), (2, (.slice E ni ce)), (3, (.int .i64 ((nn : Nat) : Int)))] (sc rfl (sc rfl (sc rfl (sc rfl sn)))) ?_
  refine T_he [0, 1, 2] [.rd A 1 n c (salt.map b8), .rd B 1 nt d (key.map b8), .rd E 1 ni ce (info.map b8)] ⟨by decide, rfl⟩ ?_
  refine T_seq ?_
  refine T_reg hF rfl ?_
  refine L_op rfl (op_pr (pr_assign rfl rfl) rfl rfl ?_)
  refine L_nil ?_
  refine T_re [(0, (.slice A n c)), (1, (.slice B nt d)), (2, (.slice E ni ce)), (3, (.int .i64 ((nn : Nat) : Int)))] (sc rfl (sc rfl (sc rfl (sc rfl sn)))) ?_
  refine T_he [0, 1, 2] [.rd A 1 n c (salt.map b8), .rd B 1 nt d (key.map b8), .rd E 1 ni ce (info.map b8)] ⟨by decide, rfl⟩ ?_
  refine T_seq ?_
  refine T_seq ?_
  refine T_reg hF rfl ?_
  refine L_op rfl (op_pr (pr_move rfl rfl) rfl rfl ?_)
  refine L_op rfl (op_pr (pr_len_sl Try.underlying24 rfl rfl) rfl rfl ?_)
  refine L_op rfl (op_pr (pr_cmp (bo := .gtr) (nc_lt (a := 300) (b := n)) rfl rfl rfl rfl) rfl rfl ?_)
  refine L_op rfl (op_pr (pr_move rfl rfl) rfl rfl ?_)
  rcases Bool.eq_false_or_eq_true (decide (300 < n)) with hc_1 | hc_1
  · skip
    refine T_slot 18 (.bool (decide (300 < n))) (.bool true) rfl (congrArg _ hc_1) ?_
    refine T_slot 17 (.bool (decide (300 < n))) (.bool true) rfl (congrArg _ hc_1) ?_
    have hc_1 := of_decide_eq_true hc_1
    refine L_skip rfl rfl rfl ?_
    refine L_skip rfl rfl rfl ?_
    refine L_skip rfl rfl rfl ?_
    refine L_op rfl (op_pr (pr_pick_t rfl rfl rfl) rfl rfl ?_)
    refine L_op rfl (op_pr (pr_move rfl rfl) rfl rfl ?_)
    refine L_skip rfl rfl rfl ?_
    refine L_skip rfl rfl rfl ?_
    refine L_skip rfl rfl rfl ?_
    refine L_op rfl (op_pr (pr_pick_t rfl rfl rfl) rfl rfl ?_)
    refine L_nil ?_
    refine T_re [(0, (.slice A n c)), (1, (.slice B nt d)), (2, (.slice E ni ce)), (3, (.int .i64 ((nn : Nat) : Int))), (27, (.bool true))] (sc rfl (sc rfl (sc rfl (sc rfl (sc rfl sn))))) ?_
    refine T_he [0, 1, 2] [.rd A 1 n c (salt.map b8), .rd B 1 nt d (key.map b8), .rd E 1 ni ce (info.map b8)] ⟨by decide, rfl⟩ ?_
    refine T_cond_t rfl ?_
    refine T_seq ?_
    refine T_reg hF rfl ?_
    refine L_op rfl (op_call0 (vs := []) (cap := []) (fun w hw => awake4_f  w (hok_nil w) ) (enters_of Try.func29 (by kernel_rfl) rfl) rfl rfl rfl rfl rfl (fun t2 q3 => ?_))
    refine L_op rfl (op_pr (pr_assign rfl rfl) rfl rfl ?_)
    refine L_nil ?_
    refine T_re [(8, (.bool true))] (sc rfl sn) ?_
    refine T_he [0, 1, 2] [.rd A 1 n c (salt.map b8), .rd B 1 nt d (key.map b8), .rd E 1 ni ce (info.map b8)] ⟨by decide, rfl⟩ ?_
    refine T_ret ?_
    exact T_fin () (by first | trivial | omega | (simp; done)) (res1 rfl rfl) [] ⟨by decide, rfl⟩ rfl
  · skip
    refine T_slot 18 (.bool (decide (300 < n))) (.bool false) rfl (congrArg _ hc_1) ?_
    refine T_slot 17 (.bool (decide (300 < n))) (.bool false) rfl (congrArg _ hc_1) ?_
    have hc_1 := of_decide_eq_false hc_1
    refine L_op rfl (op_pr (pr_move rfl rfl) rfl rfl ?_)
    refine L_op rfl (op_pr (pr_len_sl Try.underlying24 rfl rfl) rfl rfl ?_)
    refine L_op rfl (op_pr (pr_cmp (bo := .gtr) (nc_lt (a := 300) (b := nt)) rfl rfl rfl rfl) rfl rfl ?_)
    refine L_op rfl (op_pr (pr_pick_f rfl rfl rfl) rfl rfl ?_)
    refine L_op rfl (op_pr (pr_move rfl rfl) rfl rfl ?_)
    rcases Bool.eq_false_or_eq_true (decide (300 < nt)) with hc_4 | hc_4
    · skip
      refine T_slot 23 (.bool (decide (300 < nt))) (.bool true) rfl (congrArg _ hc_4) ?_
      refine T_slot 21 (.bool (decide (300 < nt))) (.bool true) rfl (congrArg _ hc_4) ?_
      refine T_slot 22 (.bool (decide (300 < nt))) (.bool true) rfl (congrArg _ hc_4) ?_
      have hc_4 := of_decide_eq_true hc_4
      refine L_skip rfl rfl rfl ?_
      refine L_skip rfl rfl rfl ?_
      refine L_skip rfl rfl rfl ?_
      refine L_op rfl (op_pr (pr_pick_t rfl rfl rfl) rfl rfl ?_)
      refine L_nil ?_
      refine T_re [(0, (.slice A n c)), (1, (.slice B nt d)), (2, (.slice E ni ce)), (3, (.int .i64 ((nn : Nat) : Int))), (27, (.bool true))] (sc rfl (sc rfl (sc rfl (sc rfl (sc rfl sn))))) ?_
      refine T_he [0, 1, 2] [.rd A 1 n c (salt.map b8), .rd B 1 nt d (key.map b8), .rd E 1 ni ce (info.map b8)] ⟨by decide, rfl⟩ ?_
      refine T_cond_t rfl ?_
      refine T_seq ?_
      refine T_reg hF rfl ?_
      refine L_op rfl (op_call0 (vs := []) (cap := []) (fun w hw => awake4_f  w (hok_nil w) ) (enters_of Try.func29 (by kernel_rfl) rfl) rfl rfl rfl rfl rfl (fun t5 q6 => ?_))
      refine L_op rfl (op_pr (pr_assign rfl rfl) rfl rfl ?_)
      refine L_nil ?_
      refine T_re [(8, (.bool true))] (sc rfl sn) ?_
      refine T_he [0, 1, 2] [.rd A 1 n c (salt.map b8), .rd B 1 nt d (key.map b8), .rd E 1 ni ce (info.map b8)] ⟨by decide, rfl⟩ ?_
      refine T_ret ?_
      exact T_fin () (by first | trivial | omega | (simp; done)) (res1 rfl rfl) [] ⟨by decide, rfl⟩ rfl
    · skip
      refine T_slot 23 (.bool (decide (300 < nt))) (.bool false) rfl (congrArg _ hc_4) ?_
      refine T_slot 21 (.bool (decide (300 < nt))) (.bool false) rfl (congrArg _ hc_4) ?_
      refine T_slot 22 (.bool (decide (300 < nt))) (.bool false) rfl (congrArg _ hc_4) ?_
      have hc_4 := of_decide_eq_false hc_4
      refine L_op rfl (op_pr (pr_move rfl rfl) rfl rfl ?_)
      refine L_op rfl (op_pr (pr_len_sl Try.underlying24 rfl rfl) rfl rfl ?_)
      refine L_op rfl (op_pr (pr_cmp (bo := .gtr) (nc_lt (a := 300) (b := ni)) rfl rfl rfl rfl) rfl rfl ?_)
      refine L_op rfl (op_pr (pr_pick_f rfl rfl rfl) rfl rfl ?_)
      refine L_nil ?_
      refine T_re [(0, (.slice A n c)), (1, (.slice B nt d)), (2, (.slice E ni ce)), (3, (.int .i64 ((nn : Nat) : Int))), (27, (.bool (decide (300 < ni))))] (sc rfl (sc rfl (sc rfl (sc rfl (sc rfl sn))))) ?_
      refine T_he [0, 1, 2] [.rd A 1 n c (salt.map b8), .rd B 1 nt d (key.map b8), .rd E 1 ni ce (info.map b8)] ⟨by decide, rfl⟩ ?_
      refine T_cond (decide (300 < ni)) rfl (fun hc_7 => ?_) (fun hc_7 => ?_)
      · skip
        have hc_7 := of_decide_eq_true hc_7
        refine T_seq ?_
        refine T_reg hF rfl ?_
        refine L_op rfl (op_call0 (vs := []) (cap := []) (fun w hw => awake4_f  w (hok_nil w) ) (enters_of Try.func29 (by kernel_rfl) rfl) rfl rfl rfl rfl rfl (fun t8 q9 => ?_))
        refine L_op rfl (op_pr (pr_assign rfl rfl) rfl rfl ?_)
        refine L_nil ?_
        refine T_re [(8, (.bool true))] (sc rfl sn) ?_
        refine T_he [0, 1, 2] [.rd A 1 n c (salt.map b8), .rd B 1 nt d (key.map b8), .rd E 1 ni ce (info.map b8)] ⟨by decide, rfl⟩ ?_
        refine T_ret ?_
        exact T_fin () (by first | trivial | omega | (simp; done)) (res1 rfl rfl) [] ⟨by decide, rfl⟩ rfl
      · skip
        have hc_7 := of_decide_eq_false hc_7
        refine T_skip ?_
        refine T_seq ?_
        refine T_reg hF rfl ?_
        refine L_op rfl (op_pr (pr_move rfl rfl) rfl rfl ?_)
        refine L_op rfl (op_call0 (vs := [(.slice E ni ce), (b8 (71#8))]) (cap := []) (fun w hw => own_f info (71#8) E ni ce w (hok_cons ((src_rd 2 rfl) w hw) (hok_nil w)) sd sd) (enters_of Try.func16 (by kernel_rfl) rfl) rfl rfl rfl rfl rfl (fun t10 q11 => ?_))
        obtain ⟨B12, d13⟩ := t10
        have q11 : ni + 3 ≤ d13 := q11
        refine L_op rfl (op_pr (pr_assign rfl rfl) rfl rfl ?_)
        refine L_nil ?_
        refine T_re [(0, (.slice A n c)), (1, (.slice B nt d)), (2, (.slice E ni ce)), (3, (.int .i64 ((nn : Nat) : Int))), (9, (.slice B12 ni d13))] (sc rfl (sc rfl (sc rfl (sc rfl (sc rfl sn))))) ?_
        refine T_he [0, 1, 2, 3, 4] [.old B12 1 (ni + 3) d13 ((info ++ [(71#8), (71#8), (71#8)]).map b8), .old B12 1 ni d13 (info.map b8), .rd A 1 n c (salt.map b8), .rd B 1 nt d (key.map b8), .rd E 1 ni ce (info.map b8)] ⟨by decide, rfl⟩ ?_
        refine T_seq ?_
        refine T_reg hF rfl ?_
        refine L_op rfl (op_pr (pr_move rfl rfl) rfl rfl ?_)
        refine L_op rfl (op_pr (pr_move rfl rfl) rfl rfl ?_)
        refine L_op rfl (op_call0 (vs := [(.slice A n c), (.slice B nt d)]) (cap := []) (fun w hw => extract_f salt A n c key B nt d w (hok_cons ((src_rd 2 rfl) w hw) (hok_cons ((src_rd 3 rfl) w hw) (hok_nil w))) (by first | assumption | omega | (simp; done) | (simp; omega)) sd (by first | assumption | omega | (simp; done) | (simp; omega)) sd) (enters_of Try.func31 (by kernel_rfl) rfl) rfl rfl rfl rfl rfl (fun t14 q15 => ?_))
        refine L_op rfl (op_alloc (z := .agg ((List.replicate 32 0#8).map b8).toArray) (zs := ((List.replicate 32 0#8).map b8)) (by kernel_rfl) rfl rfl rfl rfl (fun g16 => ?_))
        refine L_op rfl (op_store (vs := ((mactag salt key).map b8)) (cs' := ((mactag salt key).map b8)) 0 rfl rfl (by rw [show (((mactag salt key).map b8)).length = 32 from sd]; kernel_rfl) (all8_one _) (by have h1 : (((List.replicate 32 0#8).map b8)).length = 32 := (by kernel_rfl); have h2 : (((mactag salt key).map b8)).length = 32 := sd; omega) (splice_all (Eq.trans (b := 32) (by kernel_rfl) (Eq.symm sd))) rfl rfl rfl rfl ?_)
        refine L_nil ?_
        refine T_re [(0, (.slice A n c)), (1, (.slice B nt d)), (2, (.slice E ni ce)), (3, (.int .i64 ((nn : Nat) : Int))), (9, (.slice B12 ni d13)), (10, (.pointer (some ⟨g16, 0, none⟩)))] (sc rfl (sc rfl (sc rfl (sc rfl (sc rfl (sc rfl sn)))))) ?_
        refine T_he [0, 1, 2, 3, 4, 5] [.blk g16 26 ((mactag salt key).map b8), .old B12 1 (ni + 3) d13 ((info ++ [(71#8), (71#8), (71#8)]).map b8), .old B12 1 ni d13 (info.map b8), .rd A 1 n c (salt.map b8), .rd B 1 nt d (key.map b8), .rd E 1 ni ce (info.map b8)] ⟨by decide, rfl⟩ ?_
        refine T_seq ?_
        refine T_reg hF rfl ?_
        refine L_op rfl (op_pr (pr_move rfl rfl) rfl rfl ?_)
        refine L_op rfl (op_pr ((pr_as (pr_min rfl rfl rfl) (nmin (k := .i64) (a := nn) (b := 8161)))) rfl rfl ?_)
        refine T_slot 35 (.int .i64 ((min nn 8161 : Nat) : Int)) (.int .i64 ((nn : Nat) : Int)) rfl (by congr 2; omega) ?_
        refine L_op rfl (op_pr (pr_assign rfl rfl) rfl rfl ?_)
        refine L_nil ?_
        refine T_re [(0, (.slice A n c)), (1, (.slice B nt d)), (2, (.slice E ni ce)), (3, (.int .i64 ((nn : Nat) : Int))), (9, (.slice B12 ni d13)), (10, (.pointer (some ⟨g16, 0, none⟩)))] (sc rfl (sc rfl (sc rfl (sc rfl (sc rfl (sc rfl sn)))))) ?_
        refine T_he [0, 1, 2, 3, 4, 5] [.blk g16 26 ((mactag salt key).map b8), .old B12 1 (ni + 3) d13 ((info ++ [(71#8), (71#8), (71#8)]).map b8), .old B12 1 ni d13 (info.map b8), .rd A 1 n c (salt.map b8), .rd B 1 nt d (key.map b8), .rd E 1 ni ce (info.map b8)] ⟨by decide, rfl⟩ ?_
        refine T_seq ?_
        refine T_reg hF rfl ?_
        refine L_op rfl (op_ld (ld_agg (ds := ((mactag salt key).map b8)) 0 rfl agg_all Try.underlying26 rfl (by rw [show (((mactag salt key).map b8)).length = 32 from sd]; kernel_rfl) rfl rfl) rfl rfl ?_)
        refine L_op rfl (op_pr (pr_move rfl rfl) rfl rfl ?_)
        refine L_op rfl (op_pr (pr_move rfl rfl) rfl rfl ?_)
        refine L_op rfl (op_call0 (vs := [(.agg ((mactag salt key).map b8).toArray), (.slice B12 ni d13), (.int .i64 ((nn : Nat) : Int))]) (cap := []) (fun w hw => expand_f (mactag salt key) info B12 ni d13 nn w (hok_cons ((src_old 2 rfl) w hw) (hok_nil w)) (by first | assumption | omega | (simp; done) | (simp; omega)) (by first | assumption | omega | (simp; done) | (simp; omega)) sd sd sd) (enters_of Try.func30 (by kernel_rfl) rfl) rfl rfl rfl rfl rfl (fun t17 q18 => ?_))
        obtain ⟨B19, eB19⟩ : ∃ x, x = t17 := ⟨_, rfl⟩
        subst eB19
        refine L_op rfl (op_pr (pr_move rfl rfl) rfl rfl ?_)
        refine L_op rfl (op_pr (pr_ext (vs := [(.slice B19 nn nn), (.int .i64 ((0 : Nat) : Int))]) rfl rfl rfl) rfl rfl ?_)
        refine L_op rfl (op_pr (pr_ext (vs := [(.slice B19 nn nn), (.int .i64 ((0 : Nat) : Int))]) rfl rfl rfl) rfl rfl ?_)
        refine L_op rfl (op_pr (pr_assign rfl rfl) rfl rfl ?_)
        refine L_op rfl (op_pr (pr_assign rfl rfl) rfl rfl ?_)
        refine L_nil ?_
        refine T_re [(0, (.slice A n c)), (1, (.slice B nt d)), (2, (.slice E ni ce)), (3, (.int .i64 ((nn : Nat) : Int))), (9, (.slice B12 ni d13)), (10, (.pointer (some ⟨g16, 0, none⟩))), (11, (.slice B19 nn nn)), (12, (.int .i64 ((0 : Nat) : Int)))] (sc rfl (sc rfl (sc rfl (sc rfl (sc rfl (sc rfl (sc rfl (sc rfl sn)))))))) ?_
        refine T_he [0, 1, 2, 3, 4, 5, 6] [.old B19 1 nn nn ((hkdf (mactag salt key) info nn).map b8), .blk g16 26 ((mactag salt key).map b8), .old B12 1 (ni + 3) d13 ((info ++ [(71#8), (71#8), (71#8)]).map b8), .old B12 1 ni d13 (info.map b8), .rd A 1 n c (salt.map b8), .rd B 1 nt d (key.map b8), .rd E 1 ni ce (info.map b8)] ⟨by decide, rfl⟩ ?_
        refine T_seq ?_
        refine T_reg hF rfl ?_
        refine L_op rfl (op_ld (ld_agg (ds := ((mactag salt key).map b8)) 1 rfl agg_all Try.underlying26 rfl (by rw [show (((mactag salt key).map b8)).length = 32 from sd]; kernel_rfl) rfl rfl) rfl rfl ?_)
        refine L_op rfl (op_pr (pr_move rfl rfl) rfl rfl ?_)
        refine L_op rfl (op_pr (pr_move rfl rfl) rfl rfl ?_)
        refine L_op rfl (op_call0 (vs := [(.agg ((mactag salt key).map b8).toArray), (.slice E ni ce), (.int .i64 ((nn : Nat) : Int))]) (cap := []) (fun w hw => rexpand_f (mactag salt key) info E ni ce nn w (hok_cons ((src_rd 6 rfl) w hw) (hok_nil w)) (by first | assumption | omega | (simp; done) | (simp; omega)) (by first | assumption | omega | (simp; done) | (simp; omega)) sd sd sd) (enters_of Try.func32 (by kernel_rfl) rfl) rfl rfl rfl rfl rfl (fun t20 q21 => ?_))
        obtain ⟨B22, d23⟩ := t20
        refine L_op rfl (op_pr (pr_move rfl rfl) rfl rfl ?_)
        refine L_op rfl (op_pr (pr_ext (vs := [(.slice B22 nn d23), (.int .i64 ((0 : Nat) : Int))]) rfl rfl rfl) rfl rfl ?_)
        refine L_op rfl (op_pr (pr_ext (vs := [(.slice B22 nn d23), (.int .i64 ((0 : Nat) : Int))]) rfl rfl rfl) rfl rfl ?_)
        refine L_op rfl (op_pr (pr_assign rfl rfl) rfl rfl ?_)
        refine L_op rfl (op_pr (pr_assign rfl rfl) rfl rfl ?_)
        refine L_nil ?_
        refine T_re [(0, (.slice A n c)), (1, (.slice B nt d)), (2, (.slice E ni ce)), (9, (.slice B12 ni d13)), (10, (.pointer (some ⟨g16, 0, none⟩))), (11, (.slice B19 nn nn)), (12, (.int .i64 ((0 : Nat) : Int))), (13, (.slice B22 nn d23)), (14, (.int .i64 ((0 : Nat) : Int)))] (sc rfl (sc rfl (sc rfl (sc rfl (sc rfl (sc rfl (sc rfl (sc rfl (sc rfl sn))))))))) ?_
        refine T_he [0, 1, 2, 3, 4, 5, 6, 7] [.row (.slice B22 nn d23) 5 1 nn ((hkdf (mactag salt key) info nn).map b8), .old B19 1 nn nn ((hkdf (mactag salt key) info nn).map b8), .blk g16 26 ((mactag salt key).map b8), .old B12 1 (ni + 3) d13 ((info ++ [(71#8), (71#8), (71#8)]).map b8), .old B12 1 ni d13 (info.map b8), .rd A 1 n c (salt.map b8), .rd B 1 nt d (key.map b8), .rd E 1 ni ce (info.map b8)] ⟨by decide, rfl⟩ ?_
        refine T_seq ?_
        refine T_regD [.row (.slice B22 nn d23) 5 1 nn ((hkdf (mactag salt key) info nn).map b8), .old B19 1 nn nn ((hkdf (mactag salt key) info nn).map b8), .blk g16 26 ((mactag salt key).map b8), .old B12 1 (ni + 3) d13 ((info ++ [(71#8), (71#8), (71#8)]).map b8), .old B12 1 ni d13 (info.map b8), .rd A 1 n c (salt.map b8), .rd B 1 nt d (key.map b8), .rd E 1 ni ce (info.map b8)] 35 35 #[false, false, false, false, false, false, false, false, false, false, false, false, false, false, false, false, false, false, false, false, false, false, false, false, false, false, false, false, false, false, false, false, false, false, false] hF (by kernel_rfl) (by kernel_rfl) ?_
        refine D_one 0 _ rfl (by kernel_rfl) rfl (op_call0 (vs := []) (cap := []) (fun w hw => awake4_f  w (hok_nil w) ) (enters_of Try.func29 (by kernel_rfl) rfl) rfl rfl rfl rfl rfl (fun t24 q25 => ?_))
        refine D_on [0, 1, 2, 3, 4, 5, 6, 7] rfl ?_
        refine D_pure (i := 1) [0, 1, 2, 3, 4, 5, 6, 7] rfl (by kernel_rfl) rfl (pr_move rfl rfl) (.inr rfl) rfl rfl ?_
        refine D_pure (i := 3) [0, 1, 2, 3, 4, 5, 6, 7] rfl (by kernel_rfl) rfl (pr_move rfl rfl) (.inr rfl) rfl rfl ?_
        refine D_pure (i := 4) [0, 1, 2, 3, 4, 5, 6, 7] rfl (by kernel_rfl) rfl (pr_move rfl rfl) (.inr rfl) rfl rfl ?_
        refine D_take (i := 2) [0, 1, 2, 3, 4, 5, 6, 7] rfl (by kernel_rfl) rfl (ld_agg (ds := ((mactag salt key).map b8)) 2 rfl agg_all Try.underlying26 rfl (by rw [show (((mactag salt key).map b8)).length = 32 from sd]; kernel_rfl) rfl rfl) rfl rfl rfl ?_
        refine D_one 5 _ rfl (by kernel_rfl) rfl (op_call0 (vs := [(.slice A n c), (.slice B nt d)]) (cap := []) (fun w hw => rextract_f salt A n c key B nt d w (hok_cons ((src_rd 5 rfl) w hw) (hok_cons ((src_rd 6 rfl) w hw) (hok_nil w))) (by first | assumption | omega | (simp; done) | (simp; omega)) sd (by first | assumption | omega | (simp; done) | (simp; omega)) sd) (enters_of Try.func33 (by kernel_rfl) rfl) rfl rfl rfl rfl rfl (fun t26 q27 => ?_))
        refine D_on [0, 1, 2, 3, 4, 5, 6, 7] rfl ?_
        refine D_pure (i := 6) [0, 1, 2, 3, 4, 5, 6, 7] rfl (by kernel_rfl) rfl (pr_eqagg (bo := .eql) (c := ((mactag salt key) == (mactag salt key))) (r := ((mactag salt key) == (mactag salt key))) (eqb8 (xs := (mactag salt key)) (ys := (mactag salt key)) Try.underlying26 Try.underlying5 (by kernel_rfl) sd sd) (by kernel_rfl) rfl rfl rfl rfl rfl) (.inr rfl) rfl rfl ?_
        refine D_pure (i := 7) [0, 1, 2, 3, 4, 5, 6, 7] rfl (by kernel_rfl) rfl (pr_pick_t rfl rfl rfl) (.inr rfl) rfl rfl ?_
        refine D_pure (i := 8) [0, 1, 2, 3, 4, 5, 6, 7] rfl (by kernel_rfl) rfl (pr_move rfl rfl) (.inr rfl) rfl rfl ?_
        refine T_slot 56 (.bool ((mactag salt key) == (mactag salt key))) (.bool true) rfl (congrArg _ (by simp)) ?_
        refine T_slot 57 (.bool ((mactag salt key) == (mactag salt key))) (.bool true) rfl (congrArg _ (by simp)) ?_
        refine T_slot 58 (.bool ((mactag salt key) == (mactag salt key))) (.bool true) rfl (congrArg _ (by simp)) ?_
        refine D_pure (i := 9) [0, 1, 2, 3, 4, 5, 6, 7] rfl (by kernel_rfl) rfl (pr_move rfl rfl) (.inr rfl) rfl rfl ?_
        refine D_pure (i := 10) [0, 1, 2, 3, 4, 5, 6, 7] rfl (by kernel_rfl) rfl (pr_move rfl rfl) (.inr rfl) rfl rfl ?_
        refine D_one 11 _ rfl (by kernel_rfl) rfl (op_call0 (vs := [(.slice B19 nn nn), (.slice B22 nn d23)]) (cap := []) (fun w hw => bytes_f (hkdf (mactag salt key) info nn) (hkdf (mactag salt key) info nn) B19 nn nn B22 nn d23 w (hok_cons ((src_old 1 rfl) w hw) (hok_cons ((src_row 0 rfl) w hw) (hok_nil w))) ) (enters_of Try.func23 (by kernel_rfl) rfl) rfl rfl rfl rfl rfl (fun t28 q29 => ?_))
        refine D_on [0, 1, 2, 3, 4, 5, 6, 7] rfl ?_
        refine D_pure (i := 12) [0, 1, 2, 3, 4, 5, 6, 7] rfl (by kernel_rfl) rfl (pr_pick_t rfl rfl rfl) (.inr rfl) rfl rfl ?_
        refine D_pure (i := 13) [0, 1, 2, 3, 4, 5, 6, 7] rfl (by kernel_rfl) rfl (pr_move rfl rfl) (.inr rfl) rfl rfl ?_
        refine T_slot 61 (.bool (decide ((hkdf (mactag salt key) info nn) = (hkdf (mactag salt key) info nn)))) (.bool true) rfl (congrArg _ (by simp)) ?_
        refine T_slot 62 (.bool (decide ((hkdf (mactag salt key) info nn) = (hkdf (mactag salt key) info nn)))) (.bool true) rfl (congrArg _ (by simp)) ?_
        refine T_slot 63 (.bool (decide ((hkdf (mactag salt key) info nn) = (hkdf (mactag salt key) info nn)))) (.bool true) rfl (congrArg _ (by simp)) ?_
        refine D_pure (i := 14) [0, 1, 2, 3, 4, 5, 6, 7] rfl (by kernel_rfl) rfl (pr_move rfl rfl) (.inr rfl) rfl rfl ?_
        refine D_pure (i := 15) [0, 1, 2, 3, 4, 5, 6, 7] rfl (by kernel_rfl) rfl (pr_move rfl rfl) (.inr rfl) rfl rfl ?_
        refine D_pure (i := 16) [0, 1, 2, 3, 4, 5, 6, 7] rfl (by kernel_rfl) rfl (pr_cmp (bo := .eql) (nc_eq (a := 0) (b := 0)) rfl rfl rfl rfl) (.inr rfl) rfl rfl ?_
        refine D_pure (i := 17) [0, 1, 2, 3, 4, 5, 6, 7] rfl (by kernel_rfl) rfl (pr_pick_t rfl rfl rfl) (.inr rfl) rfl rfl ?_
        refine D_pure (i := 18) [0, 1, 2, 3, 4, 5, 6, 7] rfl (by kernel_rfl) rfl (pr_move rfl rfl) (.inr rfl) rfl rfl ?_
        refine D_pure (i := 19) [0, 1, 2, 3, 4, 5, 6, 7] rfl (by kernel_rfl) rfl (pr_move rfl rfl) (.inr rfl) rfl rfl ?_
        refine D_pure (i := 20) [0, 1, 2, 3, 4, 5, 6, 7] rfl (by kernel_rfl) rfl (pr_move rfl rfl) (.inr rfl) rfl rfl ?_
        refine D_pure (i := 21) [0, 1, 2, 3, 4, 5, 6, 7] rfl (by kernel_rfl) rfl (pr_move rfl rfl) (.inr rfl) rfl rfl ?_
        refine D_pure (i := 23) [0, 1, 2, 3, 4, 5, 6, 7] rfl (by kernel_rfl) rfl (pr_move rfl rfl) (.inr rfl) rfl rfl ?_
        refine D_pure (i := 24) [0, 1, 2, 3, 4, 5, 6, 7] rfl (by kernel_rfl) rfl (pr_move rfl rfl) (.inr rfl) rfl rfl ?_
        refine D_pure (i := 25) [0, 1, 2, 3, 4, 5, 6, 7] rfl (by kernel_rfl) rfl (pr_move rfl rfl) (.inr rfl) rfl rfl ?_
        refine D_one 22 _ rfl (by kernel_rfl) rfl (op_call0 (vs := [(.slice A n c), (.slice B nt d), (.slice E ni ce)]) (cap := []) (fun w hw => key_f salt A n c key B nt d info E ni ce w (hok_cons ((src_rd 5 rfl) w hw) (hok_cons ((src_rd 6 rfl) w hw) (hok_cons ((src_rd 7 rfl) w hw) (hok_nil w)))) (by first | assumption | omega | (simp; done) | (simp; omega)) sd (by first | assumption | omega | (simp; done) | (simp; omega)) sd (by first | assumption | omega | (simp; done) | (simp; omega)) sd) (enters_of Try.func34 (by kernel_rfl) rfl) rfl rfl rfl rfl rfl (fun t30 q31 => ?_))
        refine D_on [0, 1, 2, 3, 4, 5, 6, 7] rfl ?_
        refine D_one 26 _ rfl (by kernel_rfl) rfl (op_call0 (vs := [(.slice A n c), (.slice B nt d), (.slice E ni ce)]) (cap := []) (fun w hw => rkey_f salt A n c key B nt d info E ni ce w (hok_cons ((src_rd 5 rfl) w hw) (hok_cons ((src_rd 6 rfl) w hw) (hok_cons ((src_rd 7 rfl) w hw) (hok_nil w)))) (by first | assumption | omega | (simp; done) | (simp; omega)) sd (by first | assumption | omega | (simp; done) | (simp; omega)) sd (by first | assumption | omega | (simp; done) | (simp; omega)) sd) (enters_of Try.func35 (by kernel_rfl) rfl) rfl rfl rfl rfl rfl (fun t32 q33 => ?_))
        refine D_on [0, 1, 2, 3, 4, 5, 6, 7] rfl ?_
        refine D_pure (i := 27) [0, 1, 2, 3, 4, 5, 6, 7] rfl (by kernel_rfl) rfl (pr_eqagg (bo := .eql) (c := ((hkdf (mactag salt key) info 32) == (hkdf (mactag salt key) info 32))) (r := ((hkdf (mactag salt key) info 32) == (hkdf (mactag salt key) info 32))) (eqb8 (xs := (hkdf (mactag salt key) info 32)) (ys := (hkdf (mactag salt key) info 32)) Try.underlying26 Try.underlying5 (by kernel_rfl) sd sd) (by kernel_rfl) rfl rfl rfl rfl rfl) (.inr rfl) rfl rfl ?_
        refine D_pure (i := 28) [0, 1, 2, 3, 4, 5, 6, 7] rfl (by kernel_rfl) rfl (pr_pick_t rfl rfl rfl) (.inr rfl) rfl rfl ?_
        refine D_pure (i := 29) [0, 1, 2, 3, 4, 5, 6, 7] rfl (by kernel_rfl) rfl (pr_move rfl rfl) (.inr rfl) rfl rfl ?_
        refine T_slot 77 (.bool ((hkdf (mactag salt key) info 32) == (hkdf (mactag salt key) info 32))) (.bool true) rfl (congrArg _ (by simp)) ?_
        refine T_slot 78 (.bool ((hkdf (mactag salt key) info 32) == (hkdf (mactag salt key) info 32))) (.bool true) rfl (congrArg _ (by simp)) ?_
        refine T_slot 79 (.bool ((hkdf (mactag salt key) info 32) == (hkdf (mactag salt key) info 32))) (.bool true) rfl (congrArg _ (by simp)) ?_
        refine D_pure (i := 30) [0, 1, 2, 3, 4, 5, 6, 7] rfl (by kernel_rfl) rfl (pr_move rfl rfl) (.inr rfl) rfl rfl ?_
        refine D_pure (i := 31) [0, 1, 2, 3, 4, 5, 6, 7] rfl (by kernel_rfl) rfl (pr_move rfl rfl) (.inr rfl) rfl rfl ?_
        refine D_one 32 _ rfl (by kernel_rfl) rfl (op_call0 (vs := [(.slice B12 ni d13), (.slice E ni ce), (b8 (71#8))]) (cap := []) (fun w hw => kept_f info (71#8) B12 ni d13 E ce w (hok_cons ((src_old 4 rfl) w hw) (hok_cons ((src_old 3 rfl) w hw) (hok_cons ((src_rd 7 rfl) w hw) (hok_nil w)))) sd sd sd) (enters_of Try.func19 (by kernel_rfl) rfl) rfl rfl rfl rfl rfl (fun t34 q35 => ?_))
        refine D_on [0, 1, 2, 3, 4, 5, 6, 7] rfl ?_
        refine D_pure (i := 33) [0, 1, 2, 3, 4, 5, 6, 7] rfl (by kernel_rfl) rfl (pr_pick_t rfl rfl rfl) (.inr rfl) rfl rfl ?_
        refine D_pure (i := 34) [0, 1, 2, 3, 4, 5, 6, 7] rfl (by kernel_rfl) rfl (pr_assign rfl rfl) (.inr rfl) rfl rfl ?_
        refine D_done (by kernel_rfl) ?_
        refine T_re [(8, (.bool true))] (sc rfl sn) ?_
        refine T_he [0, 1, 2, 3, 4, 5, 6, 7] [.row (.slice B22 nn d23) 5 1 nn ((hkdf (mactag salt key) info nn).map b8), .old B19 1 nn nn ((hkdf (mactag salt key) info nn).map b8), .blk g16 26 ((mactag salt key).map b8), .old B12 1 (ni + 3) d13 ((info ++ [(71#8), (71#8), (71#8)]).map b8), .old B12 1 ni d13 (info.map b8), .rd A 1 n c (salt.map b8), .rd B 1 nt d (key.map b8), .rd E 1 ni ce (info.map b8)] ⟨by decide, rfl⟩ ?_
        refine T_ret ?_
        exact T_fin () (by first | trivial | omega | (simp; done)) (res1 rfl rfl) [] ⟨by decide, rfl⟩ rfl
set_option maxRecDepth 100000 in
set_option maxHeartbeats 4000000 in
theorem keys_big_f (salt : List (BitVec 8)) (A : Option Addr) (n : Nat) (c : Nat) (key : List (BitVec 8)) (B : Option Addr) (nt : Nat) (d : Nat) (info : List (BitVec 8)) (E : Option Addr) (ni : Nat) (ce : Nat) (nn : Nat) (w : World) (hO : HOK [.rd A 1 n c (salt.map b8), .rd B 1 nt d (key.map b8), .rd E 1 ni ce (info.map b8)] w) (hx : salt.length = n) (ht : key.length = nt) (hi : info.length = ni) (h1 : 8160 < nn) : Calls Try.prog 13 [(.slice A n c), (.slice B nt d), (.slice E ni ce), (.int .i64 ((nn : Nat) : Int))].toArray w (Ret (T := Unit) [] w (fun _ => True) (fun _ => (.bool true)) (fun _ => [])) := by
  have hml := mactag_len salt key
  have hkl := hkdf_len (mactag salt key) info 32 (by omega)
  have hF : Wid Fence.wide := wid_wide
  refine enter (c := _) Try.func13 rfl [] [(.slice A n c), (.slice B nt d), (.slice E ni ce), (.int .i64 ((nn : Nat) : Int))] [.rd A 1 n c (salt.map b8), .rd B 1 nt d (key.map b8), .rd E 1 ni ce (info.map b8)] (by rw [Try.ntmps13]; rfl) (own_rds hO rfl) ?_
  rw [Try.ntmps13]
  refine T_re [(0, (.slice A n c)), (1, (.slice B nt d)), (2, (.slice E ni ce)), (3, (.int .i64 ((nn : Nat) : Int)))] (sc rfl (sc rfl (sc rfl (sc rfl sn)))) ?_
  refine T_he [0, 1, 2] [.rd A 1 n c (salt.map b8), .rd B 1 nt d (key.map b8), .rd E 1 ni ce (info.map b8)] ⟨by decide, rfl⟩ ?_
  refine T_seq ?_
  refine T_reg hF rfl ?_
  refine L_op rfl (op_pr (pr_assign rfl rfl) rfl rfl ?_)
  refine L_nil ?_
  refine T_re [(0, (.slice A n c)), (1, (.slice B nt d)), (2, (.slice E ni ce)), (3, (.int .i64 ((nn : Nat) : Int)))] (sc rfl (sc rfl (sc rfl (sc rfl sn)))) ?_
  refine T_he [0, 1, 2] [.rd A 1 n c (salt.map b8), .rd B 1 nt d (key.map b8), .rd E 1 ni ce (info.map b8)] ⟨by decide, rfl⟩ ?_
  refine T_seq ?_
  refine T_seq ?_
  refine T_reg hF rfl ?_
  refine L_op rfl (op_pr (pr_move rfl rfl) rfl rfl ?_)
  refine L_op rfl (op_pr (pr_len_sl Try.underlying24 rfl rfl) rfl rfl ?_)
  refine L_op rfl (op_pr (pr_cmp (bo := .gtr) (nc_lt (a := 300) (b := n)) rfl rfl rfl rfl) rfl rfl ?_)
  refine L_op rfl (op_pr (pr_move rfl rfl) rfl rfl ?_)
  rcases Bool.eq_false_or_eq_true (decide (300 < n)) with hc_1 | hc_1
  · skip
    refine T_slot 18 (.bool (decide (300 < n))) (.bool true) rfl (congrArg _ hc_1) ?_
    refine T_slot 17 (.bool (decide (300 < n))) (.bool true) rfl (congrArg _ hc_1) ?_
    have hc_1 := of_decide_eq_true hc_1
    refine L_skip rfl rfl rfl ?_
    refine L_skip rfl rfl rfl ?_
    refine L_skip rfl rfl rfl ?_
    refine L_op rfl (op_pr (pr_pick_t rfl rfl rfl) rfl rfl ?_)
    refine L_op rfl (op_pr (pr_move rfl rfl) rfl rfl ?_)
    refine L_skip rfl rfl rfl ?_
    refine L_skip rfl rfl rfl ?_
    refine L_skip rfl rfl rfl ?_
    refine L_op rfl (op_pr (pr_pick_t rfl rfl rfl) rfl rfl ?_)
    refine L_nil ?_
    refine T_re [(0, (.slice A n c)), (1, (.slice B nt d)), (2, (.slice E ni ce)), (3, (.int .i64 ((nn : Nat) : Int))), (27, (.bool true))] (sc rfl (sc rfl (sc rfl (sc rfl (sc rfl sn))))) ?_
    refine T_he [0, 1, 2] [.rd A 1 n c (salt.map b8), .rd B 1 nt d (key.map b8), .rd E 1 ni ce (info.map b8)] ⟨by decide, rfl⟩ ?_
    refine T_cond_t rfl ?_
    refine T_seq ?_
    refine T_reg hF rfl ?_
    refine L_op rfl (op_call0 (vs := []) (cap := []) (fun w hw => awake4_f  w (hok_nil w) ) (enters_of Try.func29 (by kernel_rfl) rfl) rfl rfl rfl rfl rfl (fun t2 q3 => ?_))
    refine L_op rfl (op_pr (pr_assign rfl rfl) rfl rfl ?_)
    refine L_nil ?_
    refine T_re [(8, (.bool true))] (sc rfl sn) ?_
    refine T_he [0, 1, 2] [.rd A 1 n c (salt.map b8), .rd B 1 nt d (key.map b8), .rd E 1 ni ce (info.map b8)] ⟨by decide, rfl⟩ ?_
    refine T_ret ?_
    exact T_fin () (by first | trivial | omega | (simp; done)) (res1 rfl rfl) [] ⟨by decide, rfl⟩ rfl
  · skip
    refine T_slot 18 (.bool (decide (300 < n))) (.bool false) rfl (congrArg _ hc_1) ?_
    refine T_slot 17 (.bool (decide (300 < n))) (.bool false) rfl (congrArg _ hc_1) ?_
    have hc_1 := of_decide_eq_false hc_1
    refine L_op rfl (op_pr (pr_move rfl rfl) rfl rfl ?_)
    refine L_op rfl (op_pr (pr_len_sl Try.underlying24 rfl rfl) rfl rfl ?_)
    refine L_op rfl (op_pr (pr_cmp (bo := .gtr) (nc_lt (a := 300) (b := nt)) rfl rfl rfl rfl) rfl rfl ?_)
    refine L_op rfl (op_pr (pr_pick_f rfl rfl rfl) rfl rfl ?_)
    refine L_op rfl (op_pr (pr_move rfl rfl) rfl rfl ?_)
    rcases Bool.eq_false_or_eq_true (decide (300 < nt)) with hc_4 | hc_4
    · skip
      refine T_slot 23 (.bool (decide (300 < nt))) (.bool true) rfl (congrArg _ hc_4) ?_
      refine T_slot 21 (.bool (decide (300 < nt))) (.bool true) rfl (congrArg _ hc_4) ?_
      refine T_slot 22 (.bool (decide (300 < nt))) (.bool true) rfl (congrArg _ hc_4) ?_
      have hc_4 := of_decide_eq_true hc_4
      refine L_skip rfl rfl rfl ?_
      refine L_skip rfl rfl rfl ?_
      refine L_skip rfl rfl rfl ?_
      refine L_op rfl (op_pr (pr_pick_t rfl rfl rfl) rfl rfl ?_)
      refine L_nil ?_
      refine T_re [(0, (.slice A n c)), (1, (.slice B nt d)), (2, (.slice E ni ce)), (3, (.int .i64 ((nn : Nat) : Int))), (27, (.bool true))] (sc rfl (sc rfl (sc rfl (sc rfl (sc rfl sn))))) ?_
      refine T_he [0, 1, 2] [.rd A 1 n c (salt.map b8), .rd B 1 nt d (key.map b8), .rd E 1 ni ce (info.map b8)] ⟨by decide, rfl⟩ ?_
      refine T_cond_t rfl ?_
      refine T_seq ?_
      refine T_reg hF rfl ?_
      refine L_op rfl (op_call0 (vs := []) (cap := []) (fun w hw => awake4_f  w (hok_nil w) ) (enters_of Try.func29 (by kernel_rfl) rfl) rfl rfl rfl rfl rfl (fun t5 q6 => ?_))
      refine L_op rfl (op_pr (pr_assign rfl rfl) rfl rfl ?_)
      refine L_nil ?_
      refine T_re [(8, (.bool true))] (sc rfl sn) ?_
      refine T_he [0, 1, 2] [.rd A 1 n c (salt.map b8), .rd B 1 nt d (key.map b8), .rd E 1 ni ce (info.map b8)] ⟨by decide, rfl⟩ ?_
      refine T_ret ?_
      exact T_fin () (by first | trivial | omega | (simp; done)) (res1 rfl rfl) [] ⟨by decide, rfl⟩ rfl
    · skip
      refine T_slot 23 (.bool (decide (300 < nt))) (.bool false) rfl (congrArg _ hc_4) ?_
      refine T_slot 21 (.bool (decide (300 < nt))) (.bool false) rfl (congrArg _ hc_4) ?_
      refine T_slot 22 (.bool (decide (300 < nt))) (.bool false) rfl (congrArg _ hc_4) ?_
      have hc_4 := of_decide_eq_false hc_4
      refine L_op rfl (op_pr (pr_move rfl rfl) rfl rfl ?_)
      refine L_op rfl (op_pr (pr_len_sl Try.underlying24 rfl rfl) rfl rfl ?_)
      refine L_op rfl (op_pr (pr_cmp (bo := .gtr) (nc_lt (a := 300) (b := ni)) rfl rfl rfl rfl) rfl rfl ?_)
      refine L_op rfl (op_pr (pr_pick_f rfl rfl rfl) rfl rfl ?_)
      refine L_nil ?_
      refine T_re [(0, (.slice A n c)), (1, (.slice B nt d)), (2, (.slice E ni ce)), (3, (.int .i64 ((nn : Nat) : Int))), (27, (.bool (decide (300 < ni))))] (sc rfl (sc rfl (sc rfl (sc rfl (sc rfl sn))))) ?_
      refine T_he [0, 1, 2] [.rd A 1 n c (salt.map b8), .rd B 1 nt d (key.map b8), .rd E 1 ni ce (info.map b8)] ⟨by decide, rfl⟩ ?_
      refine T_cond (decide (300 < ni)) rfl (fun hc_7 => ?_) (fun hc_7 => ?_)
      · skip
        have hc_7 := of_decide_eq_true hc_7
        refine T_seq ?_
        refine T_reg hF rfl ?_
        refine L_op rfl (op_call0 (vs := []) (cap := []) (fun w hw => awake4_f  w (hok_nil w) ) (enters_of Try.func29 (by kernel_rfl) rfl) rfl rfl rfl rfl rfl (fun t8 q9 => ?_))
        refine L_op rfl (op_pr (pr_assign rfl rfl) rfl rfl ?_)
        refine L_nil ?_
        refine T_re [(8, (.bool true))] (sc rfl sn) ?_
        refine T_he [0, 1, 2] [.rd A 1 n c (salt.map b8), .rd B 1 nt d (key.map b8), .rd E 1 ni ce (info.map b8)] ⟨by decide, rfl⟩ ?_
        refine T_ret ?_
        exact T_fin () (by first | trivial | omega | (simp; done)) (res1 rfl rfl) [] ⟨by decide, rfl⟩ rfl
      · skip
        have hc_7 := of_decide_eq_false hc_7
        refine T_skip ?_
        refine T_seq ?_
        refine T_reg hF rfl ?_
        refine L_op rfl (op_pr (pr_move rfl rfl) rfl rfl ?_)
        refine L_op rfl (op_call0 (vs := [(.slice E ni ce), (b8 (71#8))]) (cap := []) (fun w hw => own_f info (71#8) E ni ce w (hok_cons ((src_rd 2 rfl) w hw) (hok_nil w)) sd sd) (enters_of Try.func16 (by kernel_rfl) rfl) rfl rfl rfl rfl rfl (fun t10 q11 => ?_))
        obtain ⟨B12, d13⟩ := t10
        have q11 : ni + 3 ≤ d13 := q11
        refine L_op rfl (op_pr (pr_assign rfl rfl) rfl rfl ?_)
        refine L_nil ?_
        refine T_re [(0, (.slice A n c)), (1, (.slice B nt d)), (2, (.slice E ni ce)), (3, (.int .i64 ((nn : Nat) : Int))), (9, (.slice B12 ni d13))] (sc rfl (sc rfl (sc rfl (sc rfl (sc rfl sn))))) ?_
        refine T_he [0, 1, 2, 3, 4] [.old B12 1 (ni + 3) d13 ((info ++ [(71#8), (71#8), (71#8)]).map b8), .old B12 1 ni d13 (info.map b8), .rd A 1 n c (salt.map b8), .rd B 1 nt d (key.map b8), .rd E 1 ni ce (info.map b8)] ⟨by decide, rfl⟩ ?_
        refine T_seq ?_
        refine T_reg hF rfl ?_
        refine L_op rfl (op_pr (pr_move rfl rfl) rfl rfl ?_)
        refine L_op rfl (op_pr (pr_move rfl rfl) rfl rfl ?_)
        refine L_op rfl (op_call0 (vs := [(.slice A n c), (.slice B nt d)]) (cap := []) (fun w hw => extract_f salt A n c key B nt d w (hok_cons ((src_rd 2 rfl) w hw) (hok_cons ((src_rd 3 rfl) w hw) (hok_nil w))) (by first | assumption | omega | (simp; done) | (simp; omega)) sd (by first | assumption | omega | (simp; done) | (simp; omega)) sd) (enters_of Try.func31 (by kernel_rfl) rfl) rfl rfl rfl rfl rfl (fun t14 q15 => ?_))
        refine L_op rfl (op_alloc (z := .agg ((List.replicate 32 0#8).map b8).toArray) (zs := ((List.replicate 32 0#8).map b8)) (by kernel_rfl) rfl rfl rfl rfl (fun g16 => ?_))
        refine L_op rfl (op_store (vs := ((mactag salt key).map b8)) (cs' := ((mactag salt key).map b8)) 0 rfl rfl (by rw [show (((mactag salt key).map b8)).length = 32 from sd]; kernel_rfl) (all8_one _) (by have h1 : (((List.replicate 32 0#8).map b8)).length = 32 := (by kernel_rfl); have h2 : (((mactag salt key).map b8)).length = 32 := sd; omega) (splice_all (Eq.trans (b := 32) (by kernel_rfl) (Eq.symm sd))) rfl rfl rfl rfl ?_)
        refine L_nil ?_
        refine T_re [(0, (.slice A n c)), (1, (.slice B nt d)), (2, (.slice E ni ce)), (3, (.int .i64 ((nn : Nat) : Int))), (9, (.slice B12 ni d13)), (10, (.pointer (some ⟨g16, 0, none⟩)))] (sc rfl (sc rfl (sc rfl (sc rfl (sc rfl (sc rfl sn)))))) ?_
        refine T_he [0, 1, 2, 3, 4, 5] [.blk g16 26 ((mactag salt key).map b8), .old B12 1 (ni + 3) d13 ((info ++ [(71#8), (71#8), (71#8)]).map b8), .old B12 1 ni d13 (info.map b8), .rd A 1 n c (salt.map b8), .rd B 1 nt d (key.map b8), .rd E 1 ni ce (info.map b8)] ⟨by decide, rfl⟩ ?_
        refine T_seq ?_
        refine T_reg hF rfl ?_
        refine L_op rfl (op_pr (pr_move rfl rfl) rfl rfl ?_)
        refine L_op rfl (op_pr ((pr_as (pr_min rfl rfl rfl) (nmin (k := .i64) (a := nn) (b := 8161)))) rfl rfl ?_)
        refine T_slot 35 (.int .i64 ((min nn 8161 : Nat) : Int)) (.int .i64 ((8161 : Nat) : Int)) rfl (by congr 2; omega) ?_
        refine L_op rfl (op_pr (pr_assign rfl rfl) rfl rfl ?_)
        refine L_nil ?_
        refine T_re [(0, (.slice A n c)), (1, (.slice B nt d)), (2, (.slice E ni ce)), (3, (.int .i64 ((8161 : Nat) : Int))), (9, (.slice B12 ni d13)), (10, (.pointer (some ⟨g16, 0, none⟩)))] (sc rfl (sc rfl (sc rfl (sc rfl (sc rfl (sc rfl sn)))))) ?_
        refine T_he [0, 1, 2, 3, 4, 5] [.blk g16 26 ((mactag salt key).map b8), .old B12 1 (ni + 3) d13 ((info ++ [(71#8), (71#8), (71#8)]).map b8), .old B12 1 ni d13 (info.map b8), .rd A 1 n c (salt.map b8), .rd B 1 nt d (key.map b8), .rd E 1 ni ce (info.map b8)] ⟨by decide, rfl⟩ ?_
        refine T_seq ?_
        refine T_reg hF rfl ?_
        refine L_op rfl (op_ld (ld_agg (ds := ((mactag salt key).map b8)) 0 rfl agg_all Try.underlying26 rfl (by rw [show (((mactag salt key).map b8)).length = 32 from sd]; kernel_rfl) rfl rfl) rfl rfl ?_)
        refine L_op rfl (op_pr (pr_move rfl rfl) rfl rfl ?_)
        refine L_op rfl (op_pr (pr_move rfl rfl) rfl rfl ?_)
        refine L_op rfl (op_call0 (vs := [(.agg ((mactag salt key).map b8).toArray), (.slice B12 ni d13), (.int .i64 ((8161 : Nat) : Int))]) (cap := []) (fun w hw => expand_hi_f (mactag salt key) info B12 ni d13 ((8161 : Nat) : Int) w (hok_cons ((src_old 2 rfl) w hw) (hok_nil w)) (by first | assumption | omega | (simp; done) | (simp; omega)) (by first | assumption | omega | (simp; done) | (simp; omega)) sd sd) (enters_of Try.func30 (by kernel_rfl) rfl) rfl rfl rfl rfl rfl (fun t17 q18 => ?_))
        refine L_op rfl (op_pr (pr_move rfl rfl) rfl rfl ?_)
        refine L_op rfl (op_pr (pr_ext (vs := [(.slice none 0 0), (.int .i64 ((1 : Nat) : Int))]) rfl rfl rfl) rfl rfl ?_)
        refine L_op rfl (op_pr (pr_ext (vs := [(.slice none 0 0), (.int .i64 ((1 : Nat) : Int))]) rfl rfl rfl) rfl rfl ?_)
        refine L_op rfl (op_pr (pr_assign rfl rfl) rfl rfl ?_)
        refine L_op rfl (op_pr (pr_assign rfl rfl) rfl rfl ?_)
        refine L_nil ?_
        refine T_re [(0, (.slice A n c)), (1, (.slice B nt d)), (2, (.slice E ni ce)), (3, (.int .i64 ((8161 : Nat) : Int))), (9, (.slice B12 ni d13)), (10, (.pointer (some ⟨g16, 0, none⟩))), (11, (.slice none 0 0)), (12, (.int .i64 ((1 : Nat) : Int)))] (sc rfl (sc rfl (sc rfl (sc rfl (sc rfl (sc rfl (sc rfl (sc rfl sn)))))))) ?_
        refine T_he [0, 1, 2, 3, 4, 5] [.blk g16 26 ((mactag salt key).map b8), .old B12 1 (ni + 3) d13 ((info ++ [(71#8), (71#8), (71#8)]).map b8), .old B12 1 ni d13 (info.map b8), .rd A 1 n c (salt.map b8), .rd B 1 nt d (key.map b8), .rd E 1 ni ce (info.map b8)] ⟨by decide, rfl⟩ ?_
        refine T_seq ?_
        refine T_reg hF rfl ?_
        refine L_op rfl (op_ld (ld_agg (ds := ((mactag salt key).map b8)) 0 rfl agg_all Try.underlying26 rfl (by rw [show (((mactag salt key).map b8)).length = 32 from sd]; kernel_rfl) rfl rfl) rfl rfl ?_)
        refine L_op rfl (op_pr (pr_move rfl rfl) rfl rfl ?_)
        refine L_op rfl (op_pr (pr_move rfl rfl) rfl rfl ?_)
        refine L_op rfl (op_call0 (vs := [(.agg ((mactag salt key).map b8).toArray), (.slice E ni ce), (.int .i64 ((8161 : Nat) : Int))]) (cap := []) (fun w hw => rexpand_hi_f (mactag salt key) info E ni ce ((8161 : Nat) : Int) w (hok_cons ((src_rd 5 rfl) w hw) (hok_nil w)) (by first | assumption | omega | (simp; done) | (simp; omega)) (by first | assumption | omega | (simp; done) | (simp; omega)) sd sd) (enters_of Try.func32 (by kernel_rfl) rfl) rfl rfl rfl rfl rfl (fun t19 q20 => ?_))
        refine L_op rfl (op_pr (pr_move rfl rfl) rfl rfl ?_)
        refine L_op rfl (op_pr (pr_ext (vs := [(.slice none 0 0), (.int .i64 ((1 : Nat) : Int))]) rfl rfl rfl) rfl rfl ?_)
        refine L_op rfl (op_pr (pr_ext (vs := [(.slice none 0 0), (.int .i64 ((1 : Nat) : Int))]) rfl rfl rfl) rfl rfl ?_)
        refine L_op rfl (op_pr (pr_assign rfl rfl) rfl rfl ?_)
        refine L_op rfl (op_pr (pr_assign rfl rfl) rfl rfl ?_)
        refine L_nil ?_
        refine T_re [(0, (.slice A n c)), (1, (.slice B nt d)), (2, (.slice E ni ce)), (9, (.slice B12 ni d13)), (10, (.pointer (some ⟨g16, 0, none⟩))), (11, (.slice none 0 0)), (12, (.int .i64 ((1 : Nat) : Int))), (13, (.slice none 0 0)), (14, (.int .i64 ((1 : Nat) : Int)))] (sc rfl (sc rfl (sc rfl (sc rfl (sc rfl (sc rfl (sc rfl (sc rfl (sc rfl sn))))))))) ?_
        refine T_he [0, 1, 2, 3, 4, 5] [.blk g16 26 ((mactag salt key).map b8), .old B12 1 (ni + 3) d13 ((info ++ [(71#8), (71#8), (71#8)]).map b8), .old B12 1 ni d13 (info.map b8), .rd A 1 n c (salt.map b8), .rd B 1 nt d (key.map b8), .rd E 1 ni ce (info.map b8)] ⟨by decide, rfl⟩ ?_
        refine T_seq ?_
        refine T_regD [.blk g16 26 ((mactag salt key).map b8), .old B12 1 (ni + 3) d13 ((info ++ [(71#8), (71#8), (71#8)]).map b8), .old B12 1 ni d13 (info.map b8), .rd A 1 n c (salt.map b8), .rd B 1 nt d (key.map b8), .rd E 1 ni ce (info.map b8)] 35 35 #[false, false, false, false, false, false, false, false, false, false, false, false, false, false, false, false, false, false, false, false, false, false, false, false, false, false, false, false, false, false, false, false, false, false, false] hF (by kernel_rfl) (by kernel_rfl) ?_
        refine D_one 0 _ rfl (by kernel_rfl) rfl (op_call0 (vs := []) (cap := []) (fun w hw => awake4_f  w (hok_nil w) ) (enters_of Try.func29 (by kernel_rfl) rfl) rfl rfl rfl rfl rfl (fun t21 q22 => ?_))
        refine D_on [0, 1, 2, 3, 4, 5] rfl ?_
        refine D_pure (i := 1) [0, 1, 2, 3, 4, 5] rfl (by kernel_rfl) rfl (pr_move rfl rfl) (.inr rfl) rfl rfl ?_
        refine D_pure (i := 3) [0, 1, 2, 3, 4, 5] rfl (by kernel_rfl) rfl (pr_move rfl rfl) (.inr rfl) rfl rfl ?_
        refine D_pure (i := 4) [0, 1, 2, 3, 4, 5] rfl (by kernel_rfl) rfl (pr_move rfl rfl) (.inr rfl) rfl rfl ?_
        refine D_take (i := 2) [0, 1, 2, 3, 4, 5] rfl (by kernel_rfl) rfl (ld_agg (ds := ((mactag salt key).map b8)) 0 rfl agg_all Try.underlying26 rfl (by rw [show (((mactag salt key).map b8)).length = 32 from sd]; kernel_rfl) rfl rfl) rfl rfl rfl ?_
        refine D_one 5 _ rfl (by kernel_rfl) rfl (op_call0 (vs := [(.slice A n c), (.slice B nt d)]) (cap := []) (fun w hw => rextract_f salt A n c key B nt d w (hok_cons ((src_rd 3 rfl) w hw) (hok_cons ((src_rd 4 rfl) w hw) (hok_nil w))) (by first | assumption | omega | (simp; done) | (simp; omega)) sd (by first | assumption | omega | (simp; done) | (simp; omega)) sd) (enters_of Try.func33 (by kernel_rfl) rfl) rfl rfl rfl rfl rfl (fun t23 q24 => ?_))
        refine D_on [0, 1, 2, 3, 4, 5] rfl ?_
        refine D_pure (i := 6) [0, 1, 2, 3, 4, 5] rfl (by kernel_rfl) rfl (pr_eqagg (bo := .eql) (c := ((mactag salt key) == (mactag salt key))) (r := ((mactag salt key) == (mactag salt key))) (eqb8 (xs := (mactag salt key)) (ys := (mactag salt key)) Try.underlying26 Try.underlying5 (by kernel_rfl) sd sd) (by kernel_rfl) rfl rfl rfl rfl rfl) (.inr rfl) rfl rfl ?_
        refine D_pure (i := 7) [0, 1, 2, 3, 4, 5] rfl (by kernel_rfl) rfl (pr_pick_t rfl rfl rfl) (.inr rfl) rfl rfl ?_
        refine D_pure (i := 8) [0, 1, 2, 3, 4, 5] rfl (by kernel_rfl) rfl (pr_move rfl rfl) (.inr rfl) rfl rfl ?_
        refine T_slot 56 (.bool ((mactag salt key) == (mactag salt key))) (.bool true) rfl (congrArg _ (by simp)) ?_
        refine T_slot 57 (.bool ((mactag salt key) == (mactag salt key))) (.bool true) rfl (congrArg _ (by simp)) ?_
        refine T_slot 58 (.bool ((mactag salt key) == (mactag salt key))) (.bool true) rfl (congrArg _ (by simp)) ?_
        refine D_pure (i := 9) [0, 1, 2, 3, 4, 5] rfl (by kernel_rfl) rfl (pr_move rfl rfl) (.inr rfl) rfl rfl ?_
        refine D_pure (i := 10) [0, 1, 2, 3, 4, 5] rfl (by kernel_rfl) rfl (pr_move rfl rfl) (.inr rfl) rfl rfl ?_
        refine D_one 11 _ rfl (by kernel_rfl) rfl (op_call0 (vs := [(.slice none 0 0), (.slice none 0 0)]) (cap := []) (fun w hw => bytes_f [] [] none 0 0 none 0 0 w (hok_cons ((src_nil 1) w hw) (hok_cons ((src_nil 1) w hw) (hok_nil w))) ) (enters_of Try.func23 (by kernel_rfl) rfl) rfl rfl rfl rfl rfl (fun t25 q26 => ?_))
        refine D_on [0, 1, 2, 3, 4, 5] rfl ?_
        refine D_pure (i := 12) [0, 1, 2, 3, 4, 5] rfl (by kernel_rfl) rfl (pr_pick_t rfl rfl rfl) (.inr rfl) rfl rfl ?_
        refine D_pure (i := 13) [0, 1, 2, 3, 4, 5] rfl (by kernel_rfl) rfl (pr_move rfl rfl) (.inr rfl) rfl rfl ?_
        refine T_slot 61 (.bool (decide ([] = []))) (.bool true) rfl (congrArg _ (by simp)) ?_
        refine T_slot 62 (.bool (decide ([] = []))) (.bool true) rfl (congrArg _ (by simp)) ?_
        refine T_slot 63 (.bool (decide ([] = []))) (.bool true) rfl (congrArg _ (by simp)) ?_
        refine D_pure (i := 14) [0, 1, 2, 3, 4, 5] rfl (by kernel_rfl) rfl (pr_move rfl rfl) (.inr rfl) rfl rfl ?_
        refine D_pure (i := 15) [0, 1, 2, 3, 4, 5] rfl (by kernel_rfl) rfl (pr_move rfl rfl) (.inr rfl) rfl rfl ?_
        refine D_pure (i := 16) [0, 1, 2, 3, 4, 5] rfl (by kernel_rfl) rfl (pr_cmp (bo := .eql) (nc_eq (a := 1) (b := 1)) rfl rfl rfl rfl) (.inr rfl) rfl rfl ?_
        refine D_pure (i := 17) [0, 1, 2, 3, 4, 5] rfl (by kernel_rfl) rfl (pr_pick_t rfl rfl rfl) (.inr rfl) rfl rfl ?_
        refine D_pure (i := 18) [0, 1, 2, 3, 4, 5] rfl (by kernel_rfl) rfl (pr_move rfl rfl) (.inr rfl) rfl rfl ?_
        refine D_pure (i := 19) [0, 1, 2, 3, 4, 5] rfl (by kernel_rfl) rfl (pr_move rfl rfl) (.inr rfl) rfl rfl ?_
        refine D_pure (i := 20) [0, 1, 2, 3, 4, 5] rfl (by kernel_rfl) rfl (pr_move rfl rfl) (.inr rfl) rfl rfl ?_
        refine D_pure (i := 21) [0, 1, 2, 3, 4, 5] rfl (by kernel_rfl) rfl (pr_move rfl rfl) (.inr rfl) rfl rfl ?_
        refine D_pure (i := 23) [0, 1, 2, 3, 4, 5] rfl (by kernel_rfl) rfl (pr_move rfl rfl) (.inr rfl) rfl rfl ?_
        refine D_pure (i := 24) [0, 1, 2, 3, 4, 5] rfl (by kernel_rfl) rfl (pr_move rfl rfl) (.inr rfl) rfl rfl ?_
        refine D_pure (i := 25) [0, 1, 2, 3, 4, 5] rfl (by kernel_rfl) rfl (pr_move rfl rfl) (.inr rfl) rfl rfl ?_
        refine D_one 22 _ rfl (by kernel_rfl) rfl (op_call0 (vs := [(.slice A n c), (.slice B nt d), (.slice E ni ce)]) (cap := []) (fun w hw => key_f salt A n c key B nt d info E ni ce w (hok_cons ((src_rd 3 rfl) w hw) (hok_cons ((src_rd 4 rfl) w hw) (hok_cons ((src_rd 5 rfl) w hw) (hok_nil w)))) (by first | assumption | omega | (simp; done) | (simp; omega)) sd (by first | assumption | omega | (simp; done) | (simp; omega)) sd (by first | assumption | omega | (simp; done) | (simp; omega)) sd) (enters_of Try.func34 (by kernel_rfl) rfl) rfl rfl rfl rfl rfl (fun t27 q28 => ?_))
        refine D_on [0, 1, 2, 3, 4, 5] rfl ?_
        refine D_one 26 _ rfl (by kernel_rfl) rfl (op_call0 (vs := [(.slice A n c), (.slice B nt d), (.slice E ni ce)]) (cap := []) (fun w hw => rkey_f salt A n c key B nt d info E ni ce w (hok_cons ((src_rd 3 rfl) w hw) (hok_cons ((src_rd 4 rfl) w hw) (hok_cons ((src_rd 5 rfl) w hw) (hok_nil w)))) (by first | assumption | omega | (simp; done) | (simp; omega)) sd (by first | assumption | omega | (simp; done) | (simp; omega)) sd (by first | assumption | omega | (simp; done) | (simp; omega)) sd) (enters_of Try.func35 (by kernel_rfl) rfl) rfl rfl rfl rfl rfl (fun t29 q30 => ?_))
        refine D_on [0, 1, 2, 3, 4, 5] rfl ?_
        refine D_pure (i := 27) [0, 1, 2, 3, 4, 5] rfl (by kernel_rfl) rfl (pr_eqagg (bo := .eql) (c := ((hkdf (mactag salt key) info 32) == (hkdf (mactag salt key) info 32))) (r := ((hkdf (mactag salt key) info 32) == (hkdf (mactag salt key) info 32))) (eqb8 (xs := (hkdf (mactag salt key) info 32)) (ys := (hkdf (mactag salt key) info 32)) Try.underlying26 Try.underlying5 (by kernel_rfl) sd sd) (by kernel_rfl) rfl rfl rfl rfl rfl) (.inr rfl) rfl rfl ?_
        refine D_pure (i := 28) [0, 1, 2, 3, 4, 5] rfl (by kernel_rfl) rfl (pr_pick_t rfl rfl rfl) (.inr rfl) rfl rfl ?_
        refine D_pure (i := 29) [0, 1, 2, 3, 4, 5] rfl (by kernel_rfl) rfl (pr_move rfl rfl) (.inr rfl) rfl rfl ?_
        refine T_slot 77 (.bool ((hkdf (mactag salt key) info 32) == (hkdf (mactag salt key) info 32))) (.bool true) rfl (congrArg _ (by simp)) ?_
        refine T_slot 78 (.bool ((hkdf (mactag salt key) info 32) == (hkdf (mactag salt key) info 32))) (.bool true) rfl (congrArg _ (by simp)) ?_
        refine T_slot 79 (.bool ((hkdf (mactag salt key) info 32) == (hkdf (mactag salt key) info 32))) (.bool true) rfl (congrArg _ (by simp)) ?_
        refine D_pure (i := 30) [0, 1, 2, 3, 4, 5] rfl (by kernel_rfl) rfl (pr_move rfl rfl) (.inr rfl) rfl rfl ?_
        refine D_pure (i := 31) [0, 1, 2, 3, 4, 5] rfl (by kernel_rfl) rfl (pr_move rfl rfl) (.inr rfl) rfl rfl ?_
        refine D_one 32 _ rfl (by kernel_rfl) rfl (op_call0 (vs := [(.slice B12 ni d13), (.slice E ni ce), (b8 (71#8))]) (cap := []) (fun w hw => kept_f info (71#8) B12 ni d13 E ce w (hok_cons ((src_old 2 rfl) w hw) (hok_cons ((src_old 1 rfl) w hw) (hok_cons ((src_rd 5 rfl) w hw) (hok_nil w)))) sd sd sd) (enters_of Try.func19 (by kernel_rfl) rfl) rfl rfl rfl rfl rfl (fun t31 q32 => ?_))
        refine D_on [0, 1, 2, 3, 4, 5] rfl ?_
        refine D_pure (i := 33) [0, 1, 2, 3, 4, 5] rfl (by kernel_rfl) rfl (pr_pick_t rfl rfl rfl) (.inr rfl) rfl rfl ?_
        refine D_pure (i := 34) [0, 1, 2, 3, 4, 5] rfl (by kernel_rfl) rfl (pr_assign rfl rfl) (.inr rfl) rfl rfl ?_
        refine D_done (by kernel_rfl) ?_
        refine T_re [(8, (.bool true))] (sc rfl sn) ?_
        refine T_he [0, 1, 2, 3, 4, 5] [.blk g16 26 ((mactag salt key).map b8), .old B12 1 (ni + 3) d13 ((info ++ [(71#8), (71#8), (71#8)]).map b8), .old B12 1 ni d13 (info.map b8), .rd A 1 n c (salt.map b8), .rd B 1 nt d (key.map b8), .rd E 1 ni ce (info.map b8)] ⟨by decide, rfl⟩ ?_
        refine T_ret ?_
        exact T_fin () (by first | trivial | omega | (simp; done)) (res1 rfl rfl) [] ⟨by decide, rfl⟩ rfl
set_option maxRecDepth 100000 in
set_option maxHeartbeats 4000000 in
theorem keys_low_f (salt : List (BitVec 8)) (A : Option Addr) (n : Nat) (c : Nat) (key : List (BitVec 8)) (B : Option Addr) (nt : Nat) (d : Nat) (info : List (BitVec 8)) (E : Option Addr) (ni : Nat) (ce : Nat) (z : Int) (w : World) (hO : HOK [.rd A 1 n c (salt.map b8), .rd B 1 nt d (key.map b8), .rd E 1 ni ce (info.map b8)] w) (hx : salt.length = n) (ht : key.length = nt) (hi : info.length = ni) (h1 : z < 1) : Calls Try.prog 13 [(.slice A n c), (.slice B nt d), (.slice E ni ce), (.int .i64 z)].toArray w (Ret (T := Unit) [] w (fun _ => True) (fun _ => (.bool true)) (fun _ => [])) := by
  have hml := mactag_len salt key
  have hkl := hkdf_len (mactag salt key) info 32 (by omega)
  have hF : Wid Fence.wide := wid_wide
  refine enter (c := _) Try.func13 rfl [] [(.slice A n c), (.slice B nt d), (.slice E ni ce), (.int .i64 z)] [.rd A 1 n c (salt.map b8), .rd B 1 nt d (key.map b8), .rd E 1 ni ce (info.map b8)] (by rw [Try.ntmps13]; rfl) (own_rds hO rfl) ?_
  rw [Try.ntmps13]
  refine T_re [(0, (.slice A n c)), (1, (.slice B nt d)), (2, (.slice E ni ce)), (3, (.int .i64 z))] (sc rfl (sc rfl (sc rfl (sc rfl sn)))) ?_
  refine T_he [0, 1, 2] [.rd A 1 n c (salt.map b8), .rd B 1 nt d (key.map b8), .rd E 1 ni ce (info.map b8)] ⟨by decide, rfl⟩ ?_
  refine T_seq ?_
  refine T_reg hF rfl ?_
  refine L_op rfl (op_pr (pr_assign rfl rfl) rfl rfl ?_)
  refine L_nil ?_
  refine T_re [(0, (.slice A n c)), (1, (.slice B nt d)), (2, (.slice E ni ce)), (3, (.int .i64 z))] (sc rfl (sc rfl (sc rfl (sc rfl sn)))) ?_
  refine T_he [0, 1, 2] [.rd A 1 n c (salt.map b8), .rd B 1 nt d (key.map b8), .rd E 1 ni ce (info.map b8)] ⟨by decide, rfl⟩ ?_
  refine T_seq ?_
  refine T_seq ?_
  refine T_reg hF rfl ?_
  refine L_op rfl (op_pr (pr_move rfl rfl) rfl rfl ?_)
  refine L_op rfl (op_pr (pr_len_sl Try.underlying24 rfl rfl) rfl rfl ?_)
  refine L_op rfl (op_pr (pr_cmp (bo := .gtr) (nc_lt (a := 300) (b := n)) rfl rfl rfl rfl) rfl rfl ?_)
  refine L_op rfl (op_pr (pr_move rfl rfl) rfl rfl ?_)
  rcases Bool.eq_false_or_eq_true (decide (300 < n)) with hc_1 | hc_1
  · skip
    refine T_slot 18 (.bool (decide (300 < n))) (.bool true) rfl (congrArg _ hc_1) ?_
    refine T_slot 17 (.bool (decide (300 < n))) (.bool true) rfl (congrArg _ hc_1) ?_
    have hc_1 := of_decide_eq_true hc_1
    refine L_skip rfl rfl rfl ?_
    refine L_skip rfl rfl rfl ?_
    refine L_skip rfl rfl rfl ?_
    refine L_op rfl (op_pr (pr_pick_t rfl rfl rfl) rfl rfl ?_)
    refine L_op rfl (op_pr (pr_move rfl rfl) rfl rfl ?_)
    refine L_skip rfl rfl rfl ?_
    refine L_skip rfl rfl rfl ?_
    refine L_skip rfl rfl rfl ?_
    refine L_op rfl (op_pr (pr_pick_t rfl rfl rfl) rfl rfl ?_)
    refine L_nil ?_
    refine T_re [(0, (.slice A n c)), (1, (.slice B nt d)), (2, (.slice E ni ce)), (3, (.int .i64 z)), (27, (.bool true))] (sc rfl (sc rfl (sc rfl (sc rfl (sc rfl sn))))) ?_
    refine T_he [0, 1, 2] [.rd A 1 n c (salt.map b8), .rd B 1 nt d (key.map b8), .rd E 1 ni ce (info.map b8)] ⟨by decide, rfl⟩ ?_
    refine T_cond_t rfl ?_
    refine T_seq ?_
    refine T_reg hF rfl ?_
    refine L_op rfl (op_call0 (vs := []) (cap := []) (fun w hw => awake4_f  w (hok_nil w) ) (enters_of Try.func29 (by kernel_rfl) rfl) rfl rfl rfl rfl rfl (fun t2 q3 => ?_))
    refine L_op rfl (op_pr (pr_assign rfl rfl) rfl rfl ?_)
    refine L_nil ?_
    refine T_re [(8, (.bool true))] (sc rfl sn) ?_
    refine T_he [0, 1, 2] [.rd A 1 n c (salt.map b8), .rd B 1 nt d (key.map b8), .rd E 1 ni ce (info.map b8)] ⟨by decide, rfl⟩ ?_
    refine T_ret ?_
    exact T_fin () (by first | trivial | omega | (simp; done)) (res1 rfl rfl) [] ⟨by decide, rfl⟩ rfl
  · skip
    refine T_slot 18 (.bool (decide (300 < n))) (.bool false) rfl (congrArg _ hc_1) ?_
    refine T_slot 17 (.bool (decide (300 < n))) (.bool false) rfl (congrArg _ hc_1) ?_
    have hc_1 := of_decide_eq_false hc_1
    refine L_op rfl (op_pr (pr_move rfl rfl) rfl rfl ?_)
    refine L_op rfl (op_pr (pr_len_sl Try.underlying24 rfl rfl) rfl rfl ?_)
    refine L_op rfl (op_pr (pr_cmp (bo := .gtr) (nc_lt (a := 300) (b := nt)) rfl rfl rfl rfl) rfl rfl ?_)
    refine L_op rfl (op_pr (pr_pick_f rfl rfl rfl) rfl rfl ?_)
    refine L_op rfl (op_pr (pr_move rfl rfl) rfl rfl ?_)
    rcases Bool.eq_false_or_eq_true (decide (300 < nt)) with hc_4 | hc_4
    · skip
      refine T_slot 23 (.bool (decide (300 < nt))) (.bool true) rfl (congrArg _ hc_4) ?_
      refine T_slot 21 (.bool (decide (300 < nt))) (.bool true) rfl (congrArg _ hc_4) ?_
      refine T_slot 22 (.bool (decide (300 < nt))) (.bool true) rfl (congrArg _ hc_4) ?_
      have hc_4 := of_decide_eq_true hc_4
      refine L_skip rfl rfl rfl ?_
      refine L_skip rfl rfl rfl ?_
      refine L_skip rfl rfl rfl ?_
      refine L_op rfl (op_pr (pr_pick_t rfl rfl rfl) rfl rfl ?_)
      refine L_nil ?_
      refine T_re [(0, (.slice A n c)), (1, (.slice B nt d)), (2, (.slice E ni ce)), (3, (.int .i64 z)), (27, (.bool true))] (sc rfl (sc rfl (sc rfl (sc rfl (sc rfl sn))))) ?_
      refine T_he [0, 1, 2] [.rd A 1 n c (salt.map b8), .rd B 1 nt d (key.map b8), .rd E 1 ni ce (info.map b8)] ⟨by decide, rfl⟩ ?_
      refine T_cond_t rfl ?_
      refine T_seq ?_
      refine T_reg hF rfl ?_
      refine L_op rfl (op_call0 (vs := []) (cap := []) (fun w hw => awake4_f  w (hok_nil w) ) (enters_of Try.func29 (by kernel_rfl) rfl) rfl rfl rfl rfl rfl (fun t5 q6 => ?_))
      refine L_op rfl (op_pr (pr_assign rfl rfl) rfl rfl ?_)
      refine L_nil ?_
      refine T_re [(8, (.bool true))] (sc rfl sn) ?_
      refine T_he [0, 1, 2] [.rd A 1 n c (salt.map b8), .rd B 1 nt d (key.map b8), .rd E 1 ni ce (info.map b8)] ⟨by decide, rfl⟩ ?_
      refine T_ret ?_
      exact T_fin () (by first | trivial | omega | (simp; done)) (res1 rfl rfl) [] ⟨by decide, rfl⟩ rfl
    · skip
      refine T_slot 23 (.bool (decide (300 < nt))) (.bool false) rfl (congrArg _ hc_4) ?_
      refine T_slot 21 (.bool (decide (300 < nt))) (.bool false) rfl (congrArg _ hc_4) ?_
      refine T_slot 22 (.bool (decide (300 < nt))) (.bool false) rfl (congrArg _ hc_4) ?_
      have hc_4 := of_decide_eq_false hc_4
      refine L_op rfl (op_pr (pr_move rfl rfl) rfl rfl ?_)
      refine L_op rfl (op_pr (pr_len_sl Try.underlying24 rfl rfl) rfl rfl ?_)
      refine L_op rfl (op_pr (pr_cmp (bo := .gtr) (nc_lt (a := 300) (b := ni)) rfl rfl rfl rfl) rfl rfl ?_)
      refine L_op rfl (op_pr (pr_pick_f rfl rfl rfl) rfl rfl ?_)
      refine L_nil ?_
      refine T_re [(0, (.slice A n c)), (1, (.slice B nt d)), (2, (.slice E ni ce)), (3, (.int .i64 z)), (27, (.bool (decide (300 < ni))))] (sc rfl (sc rfl (sc rfl (sc rfl (sc rfl sn))))) ?_
      refine T_he [0, 1, 2] [.rd A 1 n c (salt.map b8), .rd B 1 nt d (key.map b8), .rd E 1 ni ce (info.map b8)] ⟨by decide, rfl⟩ ?_
      refine T_cond (decide (300 < ni)) rfl (fun hc_7 => ?_) (fun hc_7 => ?_)
      · skip
        have hc_7 := of_decide_eq_true hc_7
        refine T_seq ?_
        refine T_reg hF rfl ?_
        refine L_op rfl (op_call0 (vs := []) (cap := []) (fun w hw => awake4_f  w (hok_nil w) ) (enters_of Try.func29 (by kernel_rfl) rfl) rfl rfl rfl rfl rfl (fun t8 q9 => ?_))
        refine L_op rfl (op_pr (pr_assign rfl rfl) rfl rfl ?_)
        refine L_nil ?_
        refine T_re [(8, (.bool true))] (sc rfl sn) ?_
        refine T_he [0, 1, 2] [.rd A 1 n c (salt.map b8), .rd B 1 nt d (key.map b8), .rd E 1 ni ce (info.map b8)] ⟨by decide, rfl⟩ ?_
        refine T_ret ?_
        exact T_fin () (by first | trivial | omega | (simp; done)) (res1 rfl rfl) [] ⟨by decide, rfl⟩ rfl
      · skip
        have hc_7 := of_decide_eq_false hc_7
        refine T_skip ?_
        refine T_seq ?_
        refine T_reg hF rfl ?_
        refine L_op rfl (op_pr (pr_move rfl rfl) rfl rfl ?_)
        refine L_op rfl (op_call0 (vs := [(.slice E ni ce), (b8 (71#8))]) (cap := []) (fun w hw => own_f info (71#8) E ni ce w (hok_cons ((src_rd 2 rfl) w hw) (hok_nil w)) sd sd) (enters_of Try.func16 (by kernel_rfl) rfl) rfl rfl rfl rfl rfl (fun t10 q11 => ?_))
        obtain ⟨B12, d13⟩ := t10
        have q11 : ni + 3 ≤ d13 := q11
        refine L_op rfl (op_pr (pr_assign rfl rfl) rfl rfl ?_)
        refine L_nil ?_
        refine T_re [(0, (.slice A n c)), (1, (.slice B nt d)), (2, (.slice E ni ce)), (3, (.int .i64 z)), (9, (.slice B12 ni d13))] (sc rfl (sc rfl (sc rfl (sc rfl (sc rfl sn))))) ?_
        refine T_he [0, 1, 2, 3, 4] [.old B12 1 (ni + 3) d13 ((info ++ [(71#8), (71#8), (71#8)]).map b8), .old B12 1 ni d13 (info.map b8), .rd A 1 n c (salt.map b8), .rd B 1 nt d (key.map b8), .rd E 1 ni ce (info.map b8)] ⟨by decide, rfl⟩ ?_
        refine T_seq ?_
        refine T_reg hF rfl ?_
        refine L_op rfl (op_pr (pr_move rfl rfl) rfl rfl ?_)
        refine L_op rfl (op_pr (pr_move rfl rfl) rfl rfl ?_)
        refine L_op rfl (op_call0 (vs := [(.slice A n c), (.slice B nt d)]) (cap := []) (fun w hw => extract_f salt A n c key B nt d w (hok_cons ((src_rd 2 rfl) w hw) (hok_cons ((src_rd 3 rfl) w hw) (hok_nil w))) (by first | assumption | omega | (simp; done) | (simp; omega)) sd (by first | assumption | omega | (simp; done) | (simp; omega)) sd) (enters_of Try.func31 (by kernel_rfl) rfl) rfl rfl rfl rfl rfl (fun t14 q15 => ?_))
        refine L_op rfl (op_alloc (z := .agg ((List.replicate 32 0#8).map b8).toArray) (zs := ((List.replicate 32 0#8).map b8)) (by kernel_rfl) rfl rfl rfl rfl (fun g16 => ?_))
        refine L_op rfl (op_store (vs := ((mactag salt key).map b8)) (cs' := ((mactag salt key).map b8)) 0 rfl rfl (by rw [show (((mactag salt key).map b8)).length = 32 from sd]; kernel_rfl) (all8_one _) (by have h1 : (((List.replicate 32 0#8).map b8)).length = 32 := (by kernel_rfl); have h2 : (((mactag salt key).map b8)).length = 32 := sd; omega) (splice_all (Eq.trans (b := 32) (by kernel_rfl) (Eq.symm sd))) rfl rfl rfl rfl ?_)
        refine L_nil ?_
        refine T_re [(0, (.slice A n c)), (1, (.slice B nt d)), (2, (.slice E ni ce)), (3, (.int .i64 z)), (9, (.slice B12 ni d13)), (10, (.pointer (some ⟨g16, 0, none⟩)))] (sc rfl (sc rfl (sc rfl (sc rfl (sc rfl (sc rfl sn)))))) ?_
        refine T_he [0, 1, 2, 3, 4, 5] [.blk g16 26 ((mactag salt key).map b8), .old B12 1 (ni + 3) d13 ((info ++ [(71#8), (71#8), (71#8)]).map b8), .old B12 1 ni d13 (info.map b8), .rd A 1 n c (salt.map b8), .rd B 1 nt d (key.map b8), .rd E 1 ni ce (info.map b8)] ⟨by decide, rfl⟩ ?_
        refine T_seq ?_
        refine T_reg hF rfl ?_
        refine L_op rfl (op_pr (pr_move rfl rfl) rfl rfl ?_)
        refine L_op rfl (op_pr (pr_min (a := z) (b := ((8161 : Nat) : Int)) rfl rfl rfl) rfl rfl ?_)
        refine T_slot 35 (.int .i64 (if ((8161 : Nat) : Int) < z then ((8161 : Nat) : Int) else z)) (.int .i64 z) rfl (by rw [if_neg (by omega)]) ?_
        refine L_op rfl (op_pr (pr_assign rfl rfl) rfl rfl ?_)
        refine L_nil ?_
        refine T_re [(0, (.slice A n c)), (1, (.slice B nt d)), (2, (.slice E ni ce)), (3, (.int .i64 z)), (9, (.slice B12 ni d13)), (10, (.pointer (some ⟨g16, 0, none⟩)))] (sc rfl (sc rfl (sc rfl (sc rfl (sc rfl (sc rfl sn)))))) ?_
        refine T_he [0, 1, 2, 3, 4, 5] [.blk g16 26 ((mactag salt key).map b8), .old B12 1 (ni + 3) d13 ((info ++ [(71#8), (71#8), (71#8)]).map b8), .old B12 1 ni d13 (info.map b8), .rd A 1 n c (salt.map b8), .rd B 1 nt d (key.map b8), .rd E 1 ni ce (info.map b8)] ⟨by decide, rfl⟩ ?_
        refine T_seq ?_
        refine T_reg hF rfl ?_
        refine L_op rfl (op_ld (ld_agg (ds := ((mactag salt key).map b8)) 0 rfl agg_all Try.underlying26 rfl (by rw [show (((mactag salt key).map b8)).length = 32 from sd]; kernel_rfl) rfl rfl) rfl rfl ?_)
        refine L_op rfl (op_pr (pr_move rfl rfl) rfl rfl ?_)
        refine L_op rfl (op_pr (pr_move rfl rfl) rfl rfl ?_)
        refine L_op rfl (op_call0 (vs := [(.agg ((mactag salt key).map b8).toArray), (.slice B12 ni d13), (.int .i64 z)]) (cap := []) (fun w hw => expand_lo_f (mactag salt key) info B12 ni d13 z w (hok_cons ((src_old 2 rfl) w hw) (hok_nil w)) (by first | assumption | omega | (simp; done) | (simp; omega)) (by first | assumption | omega | (simp; done) | (simp; omega)) sd sd) (enters_of Try.func30 (by kernel_rfl) rfl) rfl rfl rfl rfl rfl (fun t17 q18 => ?_))
        refine L_op rfl (op_pr (pr_move rfl rfl) rfl rfl ?_)
        refine L_op rfl (op_pr (pr_ext (vs := [(.slice none 0 0), (.int .i64 ((1 : Nat) : Int))]) rfl rfl rfl) rfl rfl ?_)
        refine L_op rfl (op_pr (pr_ext (vs := [(.slice none 0 0), (.int .i64 ((1 : Nat) : Int))]) rfl rfl rfl) rfl rfl ?_)
        refine L_op rfl (op_pr (pr_assign rfl rfl) rfl rfl ?_)
        refine L_op rfl (op_pr (pr_assign rfl rfl) rfl rfl ?_)
        refine L_nil ?_
        refine T_re [(0, (.slice A n c)), (1, (.slice B nt d)), (2, (.slice E ni ce)), (3, (.int .i64 z)), (9, (.slice B12 ni d13)), (10, (.pointer (some ⟨g16, 0, none⟩))), (11, (.slice none 0 0)), (12, (.int .i64 ((1 : Nat) : Int)))] (sc rfl (sc rfl (sc rfl (sc rfl (sc rfl (sc rfl (sc rfl (sc rfl sn)))))))) ?_
        refine T_he [0, 1, 2, 3, 4, 5] [.blk g16 26 ((mactag salt key).map b8), .old B12 1 (ni + 3) d13 ((info ++ [(71#8), (71#8), (71#8)]).map b8), .old B12 1 ni d13 (info.map b8), .rd A 1 n c (salt.map b8), .rd B 1 nt d (key.map b8), .rd E 1 ni ce (info.map b8)] ⟨by decide, rfl⟩ ?_
        refine T_seq ?_
        refine T_reg hF rfl ?_
        refine L_op rfl (op_ld (ld_agg (ds := ((mactag salt key).map b8)) 0 rfl agg_all Try.underlying26 rfl (by rw [show (((mactag salt key).map b8)).length = 32 from sd]; kernel_rfl) rfl rfl) rfl rfl ?_)
        refine L_op rfl (op_pr (pr_move rfl rfl) rfl rfl ?_)
        refine L_op rfl (op_pr (pr_move rfl rfl) rfl rfl ?_)
        refine L_op rfl (op_call0 (vs := [(.agg ((mactag salt key).map b8).toArray), (.slice E ni ce), (.int .i64 z)]) (cap := []) (fun w hw => rexpand_lo_f (mactag salt key) info E ni ce z w (hok_cons ((src_rd 5 rfl) w hw) (hok_nil w)) (by first | assumption | omega | (simp; done) | (simp; omega)) (by first | assumption | omega | (simp; done) | (simp; omega)) sd sd) (enters_of Try.func32 (by kernel_rfl) rfl) rfl rfl rfl rfl rfl (fun t19 q20 => ?_))
        refine L_op rfl (op_pr (pr_move rfl rfl) rfl rfl ?_)
        refine L_op rfl (op_pr (pr_ext (vs := [(.slice none 0 0), (.int .i64 ((1 : Nat) : Int))]) rfl rfl rfl) rfl rfl ?_)
        refine L_op rfl (op_pr (pr_ext (vs := [(.slice none 0 0), (.int .i64 ((1 : Nat) : Int))]) rfl rfl rfl) rfl rfl ?_)
        refine L_op rfl (op_pr (pr_assign rfl rfl) rfl rfl ?_)
        refine L_op rfl (op_pr (pr_assign rfl rfl) rfl rfl ?_)
        refine L_nil ?_
        refine T_re [(0, (.slice A n c)), (1, (.slice B nt d)), (2, (.slice E ni ce)), (9, (.slice B12 ni d13)), (10, (.pointer (some ⟨g16, 0, none⟩))), (11, (.slice none 0 0)), (12, (.int .i64 ((1 : Nat) : Int))), (13, (.slice none 0 0)), (14, (.int .i64 ((1 : Nat) : Int)))] (sc rfl (sc rfl (sc rfl (sc rfl (sc rfl (sc rfl (sc rfl (sc rfl (sc rfl sn))))))))) ?_
        refine T_he [0, 1, 2, 3, 4, 5] [.blk g16 26 ((mactag salt key).map b8), .old B12 1 (ni + 3) d13 ((info ++ [(71#8), (71#8), (71#8)]).map b8), .old B12 1 ni d13 (info.map b8), .rd A 1 n c (salt.map b8), .rd B 1 nt d (key.map b8), .rd E 1 ni ce (info.map b8)] ⟨by decide, rfl⟩ ?_
        refine T_seq ?_
        refine T_regD [.blk g16 26 ((mactag salt key).map b8), .old B12 1 (ni + 3) d13 ((info ++ [(71#8), (71#8), (71#8)]).map b8), .old B12 1 ni d13 (info.map b8), .rd A 1 n c (salt.map b8), .rd B 1 nt d (key.map b8), .rd E 1 ni ce (info.map b8)] 35 35 #[false, false, false, false, false, false, false, false, false, false, false, false, false, false, false, false, false, false, false, false, false, false, false, false, false, false, false, false, false, false, false, false, false, false, false] hF (by kernel_rfl) (by kernel_rfl) ?_
        refine D_one 0 _ rfl (by kernel_rfl) rfl (op_call0 (vs := []) (cap := []) (fun w hw => awake4_f  w (hok_nil w) ) (enters_of Try.func29 (by kernel_rfl) rfl) rfl rfl rfl rfl rfl (fun t21 q22 => ?_))
        refine D_on [0, 1, 2, 3, 4, 5] rfl ?_
        refine D_pure (i := 1) [0, 1, 2, 3, 4, 5] rfl (by kernel_rfl) rfl (pr_move rfl rfl) (.inr rfl) rfl rfl ?_
        refine D_pure (i := 3) [0, 1, 2, 3, 4, 5] rfl (by kernel_rfl) rfl (pr_move rfl rfl) (.inr rfl) rfl rfl ?_
        refine D_pure (i := 4) [0, 1, 2, 3, 4, 5] rfl (by kernel_rfl) rfl (pr_move rfl rfl) (.inr rfl) rfl rfl ?_
        refine D_take (i := 2) [0, 1, 2, 3, 4, 5] rfl (by kernel_rfl) rfl (ld_agg (ds := ((mactag salt key).map b8)) 0 rfl agg_all Try.underlying26 rfl (by rw [show (((mactag salt key).map b8)).length = 32 from sd]; kernel_rfl) rfl rfl) rfl rfl rfl ?_
        refine D_one 5 _ rfl (by kernel_rfl) rfl (op_call0 (vs := [(.slice A n c), (.slice B nt d)]) (cap := []) (fun w hw => rextract_f salt A n c key B nt d w (hok_cons ((src_rd 3 rfl) w hw) (hok_cons ((src_rd 4 rfl) w hw) (hok_nil w))) (by first | assumption | omega | (simp; done) | (simp; omega)) sd (by first | assumption | omega | (simp; done) | (simp; omega)) sd) (enters_of Try.func33 (by kernel_rfl) rfl) rfl rfl rfl rfl rfl (fun t23 q24 => ?_))
        refine D_on [0, 1, 2, 3, 4, 5] rfl ?_
        refine D_pure (i := 6) [0, 1, 2, 3, 4, 5] rfl (by kernel_rfl) rfl (pr_eqagg (bo := .eql) (c := ((mactag salt key) == (mactag salt key))) (r := ((mactag salt key) == (mactag salt key))) (eqb8 (xs := (mactag salt key)) (ys := (mactag salt key)) Try.underlying26 Try.underlying5 (by kernel_rfl) sd sd) (by kernel_rfl) rfl rfl rfl rfl rfl) (.inr rfl) rfl rfl ?_
        refine D_pure (i := 7) [0, 1, 2, 3, 4, 5] rfl (by kernel_rfl) rfl (pr_pick_t rfl rfl rfl) (.inr rfl) rfl rfl ?_
        refine D_pure (i := 8) [0, 1, 2, 3, 4, 5] rfl (by kernel_rfl) rfl (pr_move rfl rfl) (.inr rfl) rfl rfl ?_
        refine T_slot 56 (.bool ((mactag salt key) == (mactag salt key))) (.bool true) rfl (congrArg _ (by simp)) ?_
        refine T_slot 57 (.bool ((mactag salt key) == (mactag salt key))) (.bool true) rfl (congrArg _ (by simp)) ?_
        refine T_slot 58 (.bool ((mactag salt key) == (mactag salt key))) (.bool true) rfl (congrArg _ (by simp)) ?_
        refine D_pure (i := 9) [0, 1, 2, 3, 4, 5] rfl (by kernel_rfl) rfl (pr_move rfl rfl) (.inr rfl) rfl rfl ?_
        refine D_pure (i := 10) [0, 1, 2, 3, 4, 5] rfl (by kernel_rfl) rfl (pr_move rfl rfl) (.inr rfl) rfl rfl ?_
        refine D_one 11 _ rfl (by kernel_rfl) rfl (op_call0 (vs := [(.slice none 0 0), (.slice none 0 0)]) (cap := []) (fun w hw => bytes_f [] [] none 0 0 none 0 0 w (hok_cons ((src_nil 1) w hw) (hok_cons ((src_nil 1) w hw) (hok_nil w))) ) (enters_of Try.func23 (by kernel_rfl) rfl) rfl rfl rfl rfl rfl (fun t25 q26 => ?_))
        refine D_on [0, 1, 2, 3, 4, 5] rfl ?_
        refine D_pure (i := 12) [0, 1, 2, 3, 4, 5] rfl (by kernel_rfl) rfl (pr_pick_t rfl rfl rfl) (.inr rfl) rfl rfl ?_
        refine D_pure (i := 13) [0, 1, 2, 3, 4, 5] rfl (by kernel_rfl) rfl (pr_move rfl rfl) (.inr rfl) rfl rfl ?_
        refine T_slot 61 (.bool (decide ([] = []))) (.bool true) rfl (congrArg _ (by simp)) ?_
        refine T_slot 62 (.bool (decide ([] = []))) (.bool true) rfl (congrArg _ (by simp)) ?_
        refine T_slot 63 (.bool (decide ([] = []))) (.bool true) rfl (congrArg _ (by simp)) ?_
        refine D_pure (i := 14) [0, 1, 2, 3, 4, 5] rfl (by kernel_rfl) rfl (pr_move rfl rfl) (.inr rfl) rfl rfl ?_
        refine D_pure (i := 15) [0, 1, 2, 3, 4, 5] rfl (by kernel_rfl) rfl (pr_move rfl rfl) (.inr rfl) rfl rfl ?_
        refine D_pure (i := 16) [0, 1, 2, 3, 4, 5] rfl (by kernel_rfl) rfl (pr_cmp (bo := .eql) (nc_eq (a := 1) (b := 1)) rfl rfl rfl rfl) (.inr rfl) rfl rfl ?_
        refine D_pure (i := 17) [0, 1, 2, 3, 4, 5] rfl (by kernel_rfl) rfl (pr_pick_t rfl rfl rfl) (.inr rfl) rfl rfl ?_
        refine D_pure (i := 18) [0, 1, 2, 3, 4, 5] rfl (by kernel_rfl) rfl (pr_move rfl rfl) (.inr rfl) rfl rfl ?_
        refine D_pure (i := 19) [0, 1, 2, 3, 4, 5] rfl (by kernel_rfl) rfl (pr_move rfl rfl) (.inr rfl) rfl rfl ?_
        refine D_pure (i := 20) [0, 1, 2, 3, 4, 5] rfl (by kernel_rfl) rfl (pr_move rfl rfl) (.inr rfl) rfl rfl ?_
        refine D_pure (i := 21) [0, 1, 2, 3, 4, 5] rfl (by kernel_rfl) rfl (pr_move rfl rfl) (.inr rfl) rfl rfl ?_
        refine D_pure (i := 23) [0, 1, 2, 3, 4, 5] rfl (by kernel_rfl) rfl (pr_move rfl rfl) (.inr rfl) rfl rfl ?_
        refine D_pure (i := 24) [0, 1, 2, 3, 4, 5] rfl (by kernel_rfl) rfl (pr_move rfl rfl) (.inr rfl) rfl rfl ?_
        refine D_pure (i := 25) [0, 1, 2, 3, 4, 5] rfl (by kernel_rfl) rfl (pr_move rfl rfl) (.inr rfl) rfl rfl ?_
        refine D_one 22 _ rfl (by kernel_rfl) rfl (op_call0 (vs := [(.slice A n c), (.slice B nt d), (.slice E ni ce)]) (cap := []) (fun w hw => key_f salt A n c key B nt d info E ni ce w (hok_cons ((src_rd 3 rfl) w hw) (hok_cons ((src_rd 4 rfl) w hw) (hok_cons ((src_rd 5 rfl) w hw) (hok_nil w)))) (by first | assumption | omega | (simp; done) | (simp; omega)) sd (by first | assumption | omega | (simp; done) | (simp; omega)) sd (by first | assumption | omega | (simp; done) | (simp; omega)) sd) (enters_of Try.func34 (by kernel_rfl) rfl) rfl rfl rfl rfl rfl (fun t27 q28 => ?_))
        refine D_on [0, 1, 2, 3, 4, 5] rfl ?_
        refine D_one 26 _ rfl (by kernel_rfl) rfl (op_call0 (vs := [(.slice A n c), (.slice B nt d), (.slice E ni ce)]) (cap := []) (fun w hw => rkey_f salt A n c key B nt d info E ni ce w (hok_cons ((src_rd 3 rfl) w hw) (hok_cons ((src_rd 4 rfl) w hw) (hok_cons ((src_rd 5 rfl) w hw) (hok_nil w)))) (by first | assumption | omega | (simp; done) | (simp; omega)) sd (by first | assumption | omega | (simp; done) | (simp; omega)) sd (by first | assumption | omega | (simp; done) | (simp; omega)) sd) (enters_of Try.func35 (by kernel_rfl) rfl) rfl rfl rfl rfl rfl (fun t29 q30 => ?_))
        refine D_on [0, 1, 2, 3, 4, 5] rfl ?_
        refine D_pure (i := 27) [0, 1, 2, 3, 4, 5] rfl (by kernel_rfl) rfl (pr_eqagg (bo := .eql) (c := ((hkdf (mactag salt key) info 32) == (hkdf (mactag salt key) info 32))) (r := ((hkdf (mactag salt key) info 32) == (hkdf (mactag salt key) info 32))) (eqb8 (xs := (hkdf (mactag salt key) info 32)) (ys := (hkdf (mactag salt key) info 32)) Try.underlying26 Try.underlying5 (by kernel_rfl) sd sd) (by kernel_rfl) rfl rfl rfl rfl rfl) (.inr rfl) rfl rfl ?_
        refine D_pure (i := 28) [0, 1, 2, 3, 4, 5] rfl (by kernel_rfl) rfl (pr_pick_t rfl rfl rfl) (.inr rfl) rfl rfl ?_
        refine D_pure (i := 29) [0, 1, 2, 3, 4, 5] rfl (by kernel_rfl) rfl (pr_move rfl rfl) (.inr rfl) rfl rfl ?_
        refine T_slot 77 (.bool ((hkdf (mactag salt key) info 32) == (hkdf (mactag salt key) info 32))) (.bool true) rfl (congrArg _ (by simp)) ?_
        refine T_slot 78 (.bool ((hkdf (mactag salt key) info 32) == (hkdf (mactag salt key) info 32))) (.bool true) rfl (congrArg _ (by simp)) ?_
        refine T_slot 79 (.bool ((hkdf (mactag salt key) info 32) == (hkdf (mactag salt key) info 32))) (.bool true) rfl (congrArg _ (by simp)) ?_
        refine D_pure (i := 30) [0, 1, 2, 3, 4, 5] rfl (by kernel_rfl) rfl (pr_move rfl rfl) (.inr rfl) rfl rfl ?_
        refine D_pure (i := 31) [0, 1, 2, 3, 4, 5] rfl (by kernel_rfl) rfl (pr_move rfl rfl) (.inr rfl) rfl rfl ?_
        refine D_one 32 _ rfl (by kernel_rfl) rfl (op_call0 (vs := [(.slice B12 ni d13), (.slice E ni ce), (b8 (71#8))]) (cap := []) (fun w hw => kept_f info (71#8) B12 ni d13 E ce w (hok_cons ((src_old 2 rfl) w hw) (hok_cons ((src_old 1 rfl) w hw) (hok_cons ((src_rd 5 rfl) w hw) (hok_nil w)))) sd sd sd) (enters_of Try.func19 (by kernel_rfl) rfl) rfl rfl rfl rfl rfl (fun t31 q32 => ?_))
        refine D_on [0, 1, 2, 3, 4, 5] rfl ?_
        refine D_pure (i := 33) [0, 1, 2, 3, 4, 5] rfl (by kernel_rfl) rfl (pr_pick_t rfl rfl rfl) (.inr rfl) rfl rfl ?_
        refine D_pure (i := 34) [0, 1, 2, 3, 4, 5] rfl (by kernel_rfl) rfl (pr_assign rfl rfl) (.inr rfl) rfl rfl ?_
        refine D_done (by kernel_rfl) ?_
        refine T_re [(8, (.bool true))] (sc rfl sn) ?_
        refine T_he [0, 1, 2, 3, 4, 5] [.blk g16 26 ((mactag salt key).map b8), .old B12 1 (ni + 3) d13 ((info ++ [(71#8), (71#8), (71#8)]).map b8), .old B12 1 ni d13 (info.map b8), .rd A 1 n c (salt.map b8), .rd B 1 nt d (key.map b8), .rd E 1 ni ce (info.map b8)] ⟨by decide, rfl⟩ ?_
        refine T_ret ?_
        exact T_fin () (by first | trivial | omega | (simp; done)) (res1 rfl rfl) [] ⟨by decide, rfl⟩ rfl
theorem hkdfKeys_f (salt : List (BitVec 8)) (A : Option Addr) (n : Nat) (c : Nat) (key : List (BitVec 8)) (B : Option Addr) (nt : Nat) (d : Nat) (info : List (BitVec 8)) (E : Option Addr) (ni : Nat) (ce : Nat) (z : Int) (w : World) (hO : HOK [.rd A 1 n c (salt.map b8), .rd B 1 nt d (key.map b8), .rd E 1 ni ce (info.map b8)] w) (hx : salt.length = n) (ht : key.length = nt) (hi : info.length = ni) : Calls Try.prog 13 [(.slice A n c), (.slice B nt d), (.slice E ni ce), (.int .i64 z)].toArray w (Ret (T := Unit) [] w (fun _ => True) (fun _ => (.bool true)) (fun _ => [])) := by
  by_cases h : z < 1
  · exact keys_low_f salt A n c key B nt d info E ni ce z w hO hx ht hi h
  · obtain ⟨nn, rfl⟩ := Int.eq_ofNat_of_zero_le (show 0 ≤ z by omega)
    by_cases h2 : nn ≤ 8160
    · exact keys_mid_f salt A n c key B nt d info E ni ce nn w hO hx ht hi (by omega) h2
    · exact keys_big_f salt A n c key B nt d info E ni ce nn w hO hx ht hi (by omega)

end Go.Proofs.Ytmhkmamenfmolaa
