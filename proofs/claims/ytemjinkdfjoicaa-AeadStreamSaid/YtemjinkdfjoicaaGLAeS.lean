/- AeadSeals, AeadShort, AeadLengths, AeadStream, walked by facts. -/
import Derived.Test.YtemjinkdfjoicaaGLAeA
import Derived.Test.YtemjinkdfjoicaaProg
import Derived.Test.YtemjinkdfjoicaaFwU
namespace Go.Proofs.Ytemjinkdfjoicaa
set_option linter.unusedVariables false
set_option linter.unusedSimpArgs false
set_option linter.unnecessarySimpa false
open Go.RowKit Bv Fw

set_option maxRecDepth 100000 in
set_option maxHeartbeats 4000000 in
theorem aeadSeals_f (key : List (BitVec 8)) (nonce : List (BitVec 8)) (aad : List (BitVec 8)) (cs : List (BitVec 8)) (A1 : Option Addr) (n1 : Nat) (c1 : Nat) (A2 : Option Addr) (n2 : Nat) (c2 : Nat) (w : World) (hO : HOK [.rd A1 1 n1 c1 (aad.map b8), .rd A2 1 n2 c2 (cs.map b8)] w) (hk : key.length = 32) (hn : nonce.length = 12) (h1 : aad.length = n1) (h2 : cs.length = n2) : Calls Try.prog 9 [(.agg (key.map b8).toArray), (.agg (nonce.map b8).toArray), (.slice A1 n1 c1), (.slice A2 n2 c2)].toArray w (Ret (T := Unit) [] w (fun _ => True) (fun _ => (.bool true)) (fun _ => [])) := by
 have hsl := aseal_len key nonce aad cs
 have hF : Wid Fence.wide := wid_wide
 refine enter (c := _) Try.func9 rfl [] [(.agg (key.map b8).toArray), (.agg (nonce.map b8).toArray), (.slice A1 n1 c1), (.slice A2 n2 c2)] [.rd A1 1 n1 c1 (aad.map b8), .rd A2 1 n2 c2 (cs.map b8)] (by rw [Try.ntmps9]; rfl) (own_rds hO rfl) ?_
 rw [Try.ntmps9]
 refine T_re [(0, (.agg (key.map b8).toArray)), (1, (.agg (nonce.map b8).toArray)), (2, (.slice A1 n1 c1)), (3, (.slice A2 n2 c2))] (sc rfl (sc rfl (sc rfl (sc rfl sn)))) ?_
 refine T_he [0, 1] [.rd A1 1 n1 c1 (aad.map b8), .rd A2 1 n2 c2 (cs.map b8)] ⟨by decide, rfl⟩ ?_
 refine Tsr hF rfl ?_
 refine L_op rfl (op_box (zs := (key.map b8)) rfl rfl rfl rfl rfl (fun g1 => ?_))
 refine L_op rfl (op_box (zs := (nonce.map b8)) rfl rfl rfl rfl rfl (fun g2 => ?_))
 refine la rfl rfl rfl rfl rfl ?_
 refine L_nil ?_
 refine T_seq ?_
 refine Tsr hF rfl ?_
 refine lm rfl rfl rfl rfl rfl ?_
 refine lo rfl (pr_len_sl Try.underlying25 rfl rfl) rfl rfl ?_
 refine lo rfl (pr_cmp (bo := .gtr) (nc_lt (a := 500) (b := n1)) rfl rfl rfl rfl) rfl rfl ?_
 refine lm rfl rfl rfl rfl rfl ?_
 rcases Bool.eq_false_or_eq_true (decide (500 < n1)) with hc_3 | hc_3
 ·
  refine T_slot 18 (.bool (decide (500 < n1))) (.bool true) rfl (congrArg _ hc_3) ?_
  refine T_slot 17 (.bool (decide (500 < n1))) (.bool true) rfl (congrArg _ hc_3) ?_
  have hc_3 := of_decide_eq_true hc_3
  refine L_skip rfl rfl rfl ?_
  refine L_skip rfl rfl rfl ?_
  refine L_skip rfl rfl rfl ?_
  refine lo rfl (pr_pick_t rfl rfl rfl) rfl rfl ?_
  refine L_nil ?_
  refine T_cond_t rfl ?_
  refine Tsr hF rfl ?_
  refine L_op rfl (op_cn (fun w hw => awake7_f  w (hok_nil w) ) (enters_of Try.func23 kr rfl) rfl rfl rfl rfl rfl (fun t4 q5 => ?_))
  refine la rfl rfl rfl rfl rfl ?_
  refine L_nil ?_
  refine T_ret ?_
  exact T_fin () (by first | trivial | omega | (simp; done)) (res1 rfl rfl) [] ⟨by decide, rfl⟩ rfl
 ·
  refine T_slot 18 (.bool (decide (500 < n1))) (.bool false) rfl (congrArg _ hc_3) ?_
  refine T_slot 17 (.bool (decide (500 < n1))) (.bool false) rfl (congrArg _ hc_3) ?_
  have hc_3 := of_decide_eq_false hc_3
  refine lm rfl rfl rfl rfl rfl ?_
  refine lo rfl (pr_len_sl Try.underlying25 rfl rfl) rfl rfl ?_
  refine lo rfl (pr_cmp (bo := .gtr) (nc_lt (a := 1500) (b := n2)) rfl rfl rfl rfl) rfl rfl ?_
  refine lo rfl (pr_pick_f rfl rfl rfl) rfl rfl ?_
  refine L_nil ?_
  refine T_cond (decide (1500 < n2)) rfl (fun hc_6 => ?_) (fun hc_6 => ?_)
  ·
   have hc_6 := of_decide_eq_true hc_6
   refine Tsr hF rfl ?_
   refine L_op rfl (op_cn (fun w hw => awake7_f  w (hok_nil w) ) (enters_of Try.func23 kr rfl) rfl rfl rfl rfl rfl (fun t7 q8 => ?_))
   refine la rfl rfl rfl rfl rfl ?_
   refine L_nil ?_
   refine T_ret ?_
   exact T_fin () (by first | trivial | omega | (simp; done)) (res1 rfl rfl) [] ⟨by decide, rfl⟩ rfl
  ·
   have hc_6 := of_decide_eq_false hc_6
   refine T_skip ?_
   refine Tsr hF rfl ?_
   refine lm rfl rfl rfl rfl rfl ?_
   refine L_op rfl (op_cn (fun w hw => own_f aad (71#8) A1 n1 c1 w (hok_cons ((src_rd 2 rfl) w hw) (hok_nil w)) sd sd) (enters_of Try.func17 kr rfl) rfl rfl rfl rfl rfl (fun t9 q10 => ?_))
   obtain ⟨B11, d12⟩ := t9
   have q10 : n1 + 3 ≤ d12 := q10
   refine lm rfl rfl rfl rfl rfl ?_
   refine L_op rfl (op_cn (fun w hw => own_f cs (71#8) A2 n2 c2 w (hok_cons ((src_rd 5 rfl) w hw) (hok_nil w)) sd sd) (enters_of Try.func17 kr rfl) rfl rfl rfl rfl rfl (fun t13 q14 => ?_))
   obtain ⟨B15, d16⟩ := t13
   have q14 : n2 + 3 ≤ d16 := q14
   refine la rfl rfl rfl rfl rfl ?_
   refine la rfl rfl rfl rfl rfl ?_
   refine L_nil ?_
   refine Tsr hF rfl ?_
   refine lq rfl (ld_agg (ds := (key.map b8)) 5 rfl agg_all Try.underlying22 rfl (fwz (n := 32) kr sd) rfl rfl) rfl rfl ?_
   refine lq rfl (ld_agg (ds := (nonce.map b8)) 4 rfl agg_all Try.underlying38 rfl (fwz (n := 12) kr sd) rfl rfl) rfl rfl ?_
   refine lm rfl rfl rfl rfl rfl ?_
   refine lm rfl rfl rfl rfl rfl ?_
   refine L_op rfl (op_cn (fun w hw => seal_f key nonce aad cs B11 n1 d12 B15 n2 d16 w (hok_cons ((src_old 3 rfl) w hw) (hok_cons ((src_old 1 rfl) w hw) (hok_nil w))) (by first | assumption | exact sd) (by first | assumption | exact sd) (by first | assumption | exact sd) (by first | assumption | exact sd) sd sd) (enters_of Try.func24 kr rfl) rfl rfl rfl rfl rfl (fun t17 q18 => ?_))
   obtain ⟨B19, d20⟩ := t17
   refine lm rfl rfl rfl rfl rfl ?_
   refine lo rfl (pr_ext (vs := [(.slice B19 (n2 + 16) d20), (.int .i64 ((0 : Nat) : Int))]) rfl rfl rfl) rfl rfl ?_
   refine lo rfl (pr_ext (vs := [(.slice B19 (n2 + 16) d20), (.int .i64 ((0 : Nat) : Int))]) rfl rfl rfl) rfl rfl ?_
   refine la rfl rfl rfl rfl rfl ?_
   refine la rfl rfl rfl rfl rfl ?_
   refine L_nil ?_
   refine Tsr hF rfl ?_
   refine lq rfl (ld_agg (ds := (key.map b8)) 6 rfl agg_all Try.underlying22 rfl (fwz (n := 32) kr sd) rfl rfl) rfl rfl ?_
   refine lq rfl (ld_agg (ds := (nonce.map b8)) 5 rfl agg_all Try.underlying38 rfl (fwz (n := 12) kr sd) rfl rfl) rfl rfl ?_
   refine lm rfl rfl rfl rfl rfl ?_
   refine lm rfl rfl rfl rfl rfl ?_
   refine L_op rfl (op_cn (fun w hw => rseal_f key nonce aad cs A1 n1 c1 A2 n2 c2 w (hok_cons ((src_rd 7 rfl) w hw) (hok_cons ((src_rd 8 rfl) w hw) (hok_nil w))) (by first | assumption | exact sd) (by first | assumption | exact sd) (by first | assumption | exact sd) (by first | assumption | exact sd) sd sd) (enters_of Try.func25 kr rfl) rfl rfl rfl rfl rfl (fun t21 q22 => ?_))
   obtain ⟨B23, d24⟩ := t21
   refine lm rfl rfl rfl rfl rfl ?_
   refine lo rfl (pr_ext (vs := [(.slice B23 (n2 + 16) d24), (.int .i64 ((0 : Nat) : Int))]) rfl rfl rfl) rfl rfl ?_
   refine lo rfl (pr_ext (vs := [(.slice B23 (n2 + 16) d24), (.int .i64 ((0 : Nat) : Int))]) rfl rfl rfl) rfl rfl ?_
   refine la rfl rfl rfl rfl rfl ?_
   refine la rfl rfl rfl rfl rfl ?_
   refine L_nil ?_
   refine Tsr hF rfl ?_
   refine L_op rfl (op_cn (fun w hw => awake7_f  w (hok_nil w) ) (enters_of Try.func23 kr rfl) rfl rfl rfl rfl rfl (fun t25 q26 => ?_))
   refine lm rfl rfl rfl rfl rfl ?_
   refine lm rfl rfl rfl rfl rfl ?_
   refine lm rfl rfl rfl rfl rfl ?_
   refine L_op rfl (op_cn (fun w hw => bytes_f (aseal key nonce aad cs) (aseal key nonce aad cs) B19 (n2 + 16) d20 B23 (n2 + 16) d24 w (hok_cons ((src_row 1 rfl) w hw) (hok_cons ((src_row 0 rfl) w hw) (hok_nil w))) ) (enters_of Try.func26 kr rfl) rfl rfl rfl rfl rfl (fun t27 q28 => ?_))
   refine lo rfl (pr_pick_t rfl rfl rfl) rfl rfl ?_
   refine lm rfl rfl rfl rfl rfl ?_
   refine T_slot 50 _ (.bool true) rfl (congrArg _ (by simp)) ?_
   refine lm rfl rfl rfl rfl rfl ?_
   refine lm rfl rfl rfl rfl rfl ?_
   refine lo rfl (pr_cmp (bo := .eql) (nc_eq (a := 0) (b := 0)) rfl rfl rfl rfl) rfl rfl ?_
   refine lo rfl (pr_pick_t rfl rfl rfl) rfl rfl ?_
   refine lm rfl rfl rfl rfl rfl ?_
   refine lm rfl rfl rfl rfl rfl ?_
   refine lm rfl rfl rfl rfl rfl ?_
   refine L_op rfl (op_cn (fun w hw => kept_f aad (71#8) B11 n1 d12 A1 c1 w (hok_cons ((src_old 5 rfl) w hw) (hok_cons ((src_old 4 rfl) w hw) (hok_cons ((src_rd 8 rfl) w hw) (hok_nil w)))) sd sd sd) (enters_of Try.func22 kr rfl) rfl rfl rfl rfl rfl (fun t30 q31 => ?_))
   refine lo rfl (pr_pick_t rfl rfl rfl) rfl rfl ?_
   refine lm rfl rfl rfl rfl rfl ?_
   refine lm rfl rfl rfl rfl rfl ?_
   refine lm rfl rfl rfl rfl rfl ?_
   refine L_op rfl (op_cn (fun w hw => kept_f cs (71#8) B15 n2 d16 A2 c2 w (hok_cons ((src_old 3 rfl) w hw) (hok_cons ((src_old 2 rfl) w hw) (hok_cons ((src_rd 9 rfl) w hw) (hok_nil w)))) sd sd sd) (enters_of Try.func22 kr rfl) rfl rfl rfl rfl rfl (fun t32 q33 => ?_))
   refine lo rfl (pr_pick_t rfl rfl rfl) rfl rfl ?_
   refine la rfl rfl rfl rfl rfl ?_
   refine L_nil ?_
   refine T_ret ?_
   exact T_fin () (by first | trivial | omega | (simp; done)) (res1 rfl rfl) [] ⟨by decide, rfl⟩ rfl
set_option maxRecDepth 100000 in
set_option maxHeartbeats 4000000 in
theorem aeadShort_f (key : List (BitVec 8)) (nonce : List (BitVec 8)) (aad : List (BitVec 8)) (cs : List (BitVec 8)) (A1 : Option Addr) (n1 : Nat) (c1 : Nat) (A2 : Option Addr) (n2 : Nat) (c2 : Nat) (w : World) (hO : HOK [.rd A1 1 n1 c1 (aad.map b8), .rd A2 1 n2 c2 (cs.map b8)] w) (hk : key.length = 32) (hn : nonce.length = 12) (h1 : aad.length = n1) (h2 : cs.length = n2) : Calls Try.prog 15 [(.agg (key.map b8).toArray), (.agg (nonce.map b8).toArray), (.slice A1 n1 c1), (.slice A2 n2 c2)].toArray w (Ret (T := Unit) [] w (fun _ => True) (fun _ => (.bool true)) (fun _ => [])) := by
 obtain ⟨kk, hkk⟩ : ∃ x : Nat, min n2 15 = x := ⟨_, rfl⟩
 have hk15 : kk ≤ 15 ∧ kk ≤ n2 := by omega
 have hF : Wid Fence.wide := wid_wide
 refine enter (c := _) Try.func15 rfl [] [(.agg (key.map b8).toArray), (.agg (nonce.map b8).toArray), (.slice A1 n1 c1), (.slice A2 n2 c2)] [.rd A1 1 n1 c1 (aad.map b8), .rd A2 1 n2 c2 (cs.map b8)] (by rw [Try.ntmps15]; rfl) (own_rds hO rfl) ?_
 rw [Try.ntmps15]
 refine T_re [(0, (.agg (key.map b8).toArray)), (1, (.agg (nonce.map b8).toArray)), (2, (.slice A1 n1 c1)), (3, (.slice A2 n2 c2))] (sc rfl (sc rfl (sc rfl (sc rfl sn)))) ?_
 refine T_he [0, 1] [.rd A1 1 n1 c1 (aad.map b8), .rd A2 1 n2 c2 (cs.map b8)] ⟨by decide, rfl⟩ ?_
 refine Tsr hF rfl ?_
 refine L_op rfl (op_box (zs := (key.map b8)) rfl rfl rfl rfl rfl (fun g1 => ?_))
 refine L_op rfl (op_box (zs := (nonce.map b8)) rfl rfl rfl rfl rfl (fun g2 => ?_))
 refine la rfl rfl rfl rfl rfl ?_
 refine L_nil ?_
 refine T_seq ?_
 refine Tsr hF rfl ?_
 refine lm rfl rfl rfl rfl rfl ?_
 refine lo rfl (pr_len_sl Try.underlying25 rfl rfl) rfl rfl ?_
 refine lo rfl (pr_cmp (bo := .gtr) (nc_lt (a := 300) (b := n1)) rfl rfl rfl rfl) rfl rfl ?_
 refine L_nil ?_
 refine T_cond (decide (300 < n1)) rfl (fun hc_3 => ?_) (fun hc_3 => ?_)
 ·
  have hc_3 := of_decide_eq_true hc_3
  refine Tsr hF rfl ?_
  refine L_op rfl (op_cn (fun w hw => awake7_f  w (hok_nil w) ) (enters_of Try.func23 kr rfl) rfl rfl rfl rfl rfl (fun t4 q5 => ?_))
  refine la rfl rfl rfl rfl rfl ?_
  refine L_nil ?_
  refine T_ret ?_
  exact T_fin () (by first | trivial | omega | (simp; done)) (res1 rfl rfl) [] ⟨by decide, rfl⟩ rfl
 ·
  have hc_3 := of_decide_eq_false hc_3
  refine T_skip ?_
  refine T_seq ?_
  refine T_regD [.blk g2 38 (nonce.map b8), .blk g1 22 (key.map b8), .rd A1 1 n1 c1 (aad.map b8), .rd A2 1 n2 c2 (cs.map b8)] 14 14 #[false, false, false, false, false, false, false, false, false, false, false, false, false, false] hF kr kr ?_
  refine D_pure (i := 2) [0, 1, 2, 3] rfl kr rfl (pr_move rfl rfl) (.inr rfl) rfl rfl ?_
  refine D_pure (i := 3) [0, 1, 2, 3] rfl kr rfl (pr_move rfl rfl) (.inr rfl) rfl rfl ?_
  refine D_pure (i := 4) [0, 1, 2, 3] rfl kr rfl (pr_move rfl rfl) (.inr rfl) rfl rfl ?_
  refine D_pure (i := 5) [0, 1, 2, 3] rfl kr rfl (pr_len_sl Try.underlying25 rfl rfl) (.inr rfl) rfl rfl ?_
  refine D_pure (i := 6) [0, 1, 2, 3] rfl kr rfl ((pr_as (pr_min rfl rfl rfl) (nmin (k := .i64) (a := n2) (b := 15)))) (.inr rfl) rfl rfl ?_
  refine T_slot 22 (.int .i64 ((min n2 15 : Nat) : Int)) (.int .i64 ((kk : Nat) : Int)) rfl (by rw [hkk]) ?_
  refine D_take (i := 0) [0, 1, 2, 3] rfl kr rfl (ld_agg (ds := (key.map b8)) 1 rfl agg_all Try.underlying22 rfl (fwz (n := 32) kr sd) rfl rfl) rfl rfl rfl ?_
  refine D_take (i := 1) [0, 1, 2, 3] rfl kr rfl (ld_agg (ds := (nonce.map b8)) 0 rfl agg_all Try.underlying38 rfl (fwz (n := 12) kr sd) rfl rfl) rfl rfl rfl ?_
  refine D_one 7 _ rfl kr rfl (op_slice_rd (l := 0) (u := kk) 3 rfl sd sd Try.underlying25 kr rfl rfl rfl ⟨_, rfl⟩ rfl rfl (fun B6 => ?_))
  refine T_as 0 _ (.rd B6 1 kk c2 ((List.take kk cs).map b8)) rfl (by congr 1; simp [List.map_take, List.map_drop] <;> omega) ?_
  refine T_slot 23 _ (.slice B6 kk c2) rfl (by congr 1) ?_
  refine D_on [1, 2, 3, 4] rfl ?_
  refine D_one 8 _ rfl kr rfl (op_cn (fun w hw => open_short_f key nonce aad (List.take kk cs) A1 n1 c1 B6 kk c2 w (hok_cons ((src_rd 3 rfl) w hw) (hok_cons ((src_rd 0 rfl) w hw) (hok_nil w))) (by first | assumption | exact sd) (by first | assumption | exact sd) (by first | assumption | exact sd) (by first | assumption | exact sd) sd sd) (enters_of Try.func27 kr rfl) rfl rfl rfl rfl rfl (fun t7 q8 => ?_))
  refine D_on [1, 2, 3, 4] rfl ?_
  refine D_pure (i := 9) [1, 2, 3, 4] rfl kr rfl (pr_move rfl rfl) (.inr rfl) rfl rfl ?_
  refine D_pure (i := 10) [1, 2, 3, 4] rfl kr rfl (pr_ext (vs := [(.slice none 0 0), (.int .i64 ((3 : Nat) : Int))]) rfl rfl rfl) (.inr rfl) rfl rfl ?_
  refine D_pure (i := 11) [1, 2, 3, 4] rfl kr rfl (pr_ext (vs := [(.slice none 0 0), (.int .i64 ((3 : Nat) : Int))]) rfl rfl rfl) (.inr rfl) rfl rfl ?_
  refine D_pure (i := 12) [1, 2, 3, 4] rfl kr rfl (pr_assign rfl rfl) (.inr rfl) rfl rfl ?_
  refine D_pure (i := 13) [1, 2, 3, 4] rfl kr rfl (pr_assign rfl rfl) (.inr rfl) rfl rfl ?_
  refine D_done kr ?_
  refine Tsr hF rfl ?_
  refine L_op rfl (op_cn (fun w hw => awake7_f  w (hok_nil w) ) (enters_of Try.func23 kr rfl) rfl rfl rfl rfl rfl (fun t9 q10 => ?_))
  refine lm rfl rfl rfl rfl rfl ?_
  refine lm rfl rfl rfl rfl rfl ?_
  refine lo rfl (pr_cmp (bo := .eql) (nc_eq (a := 3) (b := 3)) rfl rfl rfl rfl) rfl rfl ?_
  refine lo rfl (pr_pick_t rfl rfl rfl) rfl rfl ?_
  refine lm rfl rfl rfl rfl rfl ?_
  refine lm rfl rfl rfl rfl rfl ?_
  refine lo rfl (pr_len_sl Try.underlying25 rfl rfl) rfl rfl ?_
  refine lo rfl (pr_cmp (bo := .eql) (nc_eq (a := 0) (b := 0)) rfl rfl rfl rfl) rfl rfl ?_
  refine lo rfl (pr_pick_t rfl rfl rfl) rfl rfl ?_
  refine la rfl rfl rfl rfl rfl ?_
  refine L_nil ?_
  refine T_ret ?_
  refine T_slot 8 (.bool (0 == 0)) (.bool true) rfl (by simp) ?_
  exact T_fin () (by first | trivial | omega | (simp; done)) (res1 rfl rfl) [] ⟨by decide, rfl⟩ rfl
set_option maxRecDepth 100000 in
set_option maxHeartbeats 4000000 in
theorem aeadLengths_f (key : List (BitVec 8)) (nonce : List (BitVec 8)) (aad : List (BitVec 8)) (cs : List (BitVec 8)) (A1 : Option Addr) (n1 : Nat) (c1 : Nat) (A2 : Option Addr) (n2 : Nat) (c2 : Nat) (w : World) (hO : HOK [.rd A1 1 n1 c1 (aad.map b8), .rd A2 1 n2 c2 (cs.map b8)] w) (hk : key.length = 32) (hn : nonce.length = 12) (h1 : aad.length = n1) (h2 : cs.length = n2) : Calls Try.prog 14 [(.agg (key.map b8).toArray), (.agg (nonce.map b8).toArray), (.slice A1 n1 c1), (.slice A2 n2 c2)].toArray w (Ret (T := Unit) [] w (fun _ => True) (fun _ => (.bool true)) (fun _ => [])) := by
 have hF : Wid Fence.wide := wid_wide
 refine enter (c := _) Try.func14 rfl [] [(.agg (key.map b8).toArray), (.agg (nonce.map b8).toArray), (.slice A1 n1 c1), (.slice A2 n2 c2)] [.rd A1 1 n1 c1 (aad.map b8), .rd A2 1 n2 c2 (cs.map b8)] (by rw [Try.ntmps14]; rfl) (own_rds hO rfl) ?_
 rw [Try.ntmps14]
 refine T_re [(0, (.agg (key.map b8).toArray)), (1, (.agg (nonce.map b8).toArray)), (2, (.slice A1 n1 c1)), (3, (.slice A2 n2 c2))] (sc rfl (sc rfl (sc rfl (sc rfl sn)))) ?_
 refine T_he [0, 1] [.rd A1 1 n1 c1 (aad.map b8), .rd A2 1 n2 c2 (cs.map b8)] ⟨by decide, rfl⟩ ?_
 refine Tsr hF rfl ?_
 refine L_op rfl (op_box (zs := (key.map b8)) rfl rfl rfl rfl rfl (fun g1 => ?_))
 refine L_op rfl (op_box (zs := (nonce.map b8)) rfl rfl rfl rfl rfl (fun g2 => ?_))
 refine la rfl rfl rfl rfl rfl ?_
 refine L_nil ?_
 refine T_seq ?_
 refine Tsr hF rfl ?_
 refine lm rfl rfl rfl rfl rfl ?_
 refine lo rfl (pr_len_sl Try.underlying25 rfl rfl) rfl rfl ?_
 refine lo rfl (pr_cmp (bo := .gtr) (nc_lt (a := 300) (b := n1)) rfl rfl rfl rfl) rfl rfl ?_
 refine lm rfl rfl rfl rfl rfl ?_
 rcases Bool.eq_false_or_eq_true (decide (300 < n1)) with hc_3 | hc_3
 ·
  refine T_slot 16 (.bool (decide (300 < n1))) (.bool true) rfl (congrArg _ hc_3) ?_
  refine T_slot 15 (.bool (decide (300 < n1))) (.bool true) rfl (congrArg _ hc_3) ?_
  have hc_3 := of_decide_eq_true hc_3
  refine L_skip rfl rfl rfl ?_
  refine L_skip rfl rfl rfl ?_
  refine L_skip rfl rfl rfl ?_
  refine lo rfl (pr_pick_t rfl rfl rfl) rfl rfl ?_
  refine L_nil ?_
  refine T_cond_t rfl ?_
  refine Tsr hF rfl ?_
  refine L_op rfl (op_cn (fun w hw => awake7_f  w (hok_nil w) ) (enters_of Try.func23 kr rfl) rfl rfl rfl rfl rfl (fun t4 q5 => ?_))
  refine la rfl rfl rfl rfl rfl ?_
  refine L_nil ?_
  refine T_ret ?_
  exact T_fin () (by first | trivial | omega | (simp; done)) (res1 rfl rfl) [] ⟨by decide, rfl⟩ rfl
 ·
  refine T_slot 16 (.bool (decide (300 < n1))) (.bool false) rfl (congrArg _ hc_3) ?_
  refine T_slot 15 (.bool (decide (300 < n1))) (.bool false) rfl (congrArg _ hc_3) ?_
  have hc_3 := of_decide_eq_false hc_3
  refine lm rfl rfl rfl rfl rfl ?_
  refine lo rfl (pr_len_sl Try.underlying25 rfl rfl) rfl rfl ?_
  refine lo rfl (pr_cmp (bo := .gtr) (nc_lt (a := 1000) (b := n2)) rfl rfl rfl rfl) rfl rfl ?_
  refine lo rfl (pr_pick_f rfl rfl rfl) rfl rfl ?_
  refine L_nil ?_
  refine T_cond (decide (1000 < n2)) rfl (fun hc_6 => ?_) (fun hc_6 => ?_)
  ·
   have hc_6 := of_decide_eq_true hc_6
   refine Tsr hF rfl ?_
   refine L_op rfl (op_cn (fun w hw => awake7_f  w (hok_nil w) ) (enters_of Try.func23 kr rfl) rfl rfl rfl rfl rfl (fun t7 q8 => ?_))
   refine la rfl rfl rfl rfl rfl ?_
   refine L_nil ?_
   refine T_ret ?_
   exact T_fin () (by first | trivial | omega | (simp; done)) (res1 rfl rfl) [] ⟨by decide, rfl⟩ rfl
  ·
   have hc_6 := of_decide_eq_false hc_6
   refine T_skip ?_
   refine Tsr hF rfl ?_
   refine lq rfl (ld_agg (ds := (key.map b8)) 1 rfl agg_all Try.underlying22 rfl (fwz (n := 32) kr sd) rfl rfl) rfl rfl ?_
   refine lq rfl (ld_agg (ds := (nonce.map b8)) 0 rfl agg_all Try.underlying38 rfl (fwz (n := 12) kr sd) rfl rfl) rfl rfl ?_
   refine lm rfl rfl rfl rfl rfl ?_
   refine lm rfl rfl rfl rfl rfl ?_
   refine L_op rfl (op_cn (fun w hw => seal_f key nonce aad cs A1 n1 c1 A2 n2 c2 w (hok_cons ((src_rd 2 rfl) w hw) (hok_cons ((src_rd 3 rfl) w hw) (hok_nil w))) (by first | assumption | exact sd) (by first | assumption | exact sd) (by first | assumption | exact sd) (by first | assumption | exact sd) sd sd) (enters_of Try.func24 kr rfl) rfl rfl rfl rfl rfl (fun t9 q10 => ?_))
   obtain ⟨B11, d12⟩ := t9
   refine lm rfl rfl rfl rfl rfl ?_
   refine lo rfl (pr_ext (vs := [(.slice B11 (n2 + 16) d12), (.int .i64 ((0 : Nat) : Int))]) rfl rfl rfl) rfl rfl ?_
   refine lo rfl (pr_ext (vs := [(.slice B11 (n2 + 16) d12), (.int .i64 ((0 : Nat) : Int))]) rfl rfl rfl) rfl rfl ?_
   refine la rfl rfl rfl rfl rfl ?_
   refine la rfl rfl rfl rfl rfl ?_
   refine L_nil ?_
   refine Tsr hF rfl ?_
   refine lo rfl (pr_build (qs := []) (v := .agg ([0#8, 0#8, 0#8, 0#8, 0#8, 0#8, 0#8, 0#8, 0#8, 0#8, 0#8, 0#8, 0#8, 0#8, 0#8, 0#8, 0#8, 0#8, 0#8, 0#8, 0#8, 0#8, 0#8, 0#8, 0#8, 0#8, 0#8, 0#8, 0#8, 0#8, 0#8, 0#8].map b8).toArray) (fun _ => by kernel_rfl) rfl rfl) rfl rfl ?_
   refine lo rfl (pr_build (qs := []) (v := .agg ([0#8, 0#8, 0#8, 0#8, 0#8, 0#8, 0#8, 0#8, 0#8, 0#8, 0#8, 0#8].map b8).toArray) (fun _ => by kernel_rfl) rfl rfl) rfl rfl ?_
   refine lm rfl rfl rfl rfl rfl ?_
   refine lo rfl (pr_len_sl Try.underlying25 rfl rfl) rfl rfl ?_
   refine L_op rfl (op_make (z := (b8 (0#8))) (n := n2) (c := n2) Try.underlying25 (bytes := 1) kr rfl sd sd sd rfl rfl rfl rfl rfl (fun g13 => ?_))
   refine T_as 0 _ (.blk g13 5 ((List.replicate n2 0#8).map b8)) rfl (by rw [List.map_replicate]) ?_
   refine L_op rfl (op_cn (fun w hw => seal_f [0#8, 0#8, 0#8, 0#8, 0#8, 0#8, 0#8, 0#8, 0#8, 0#8, 0#8, 0#8, 0#8, 0#8, 0#8, 0#8, 0#8, 0#8, 0#8, 0#8, 0#8, 0#8, 0#8, 0#8, 0#8, 0#8, 0#8, 0#8, 0#8, 0#8, 0#8, 0#8] [0#8, 0#8, 0#8, 0#8, 0#8, 0#8, 0#8, 0#8, 0#8, 0#8, 0#8, 0#8] [] (List.replicate n2 0#8) none 0 0 (some ⟨g13, 0, none⟩) n2 n2 w (hok_cons ((src_nil 1) w hw) (hok_cons ((src_full (z := 1) 0 rfl sd sd sd) w hw) (hok_nil w))) (by first | assumption | exact sd) (by first | assumption | exact sd) (by first | assumption | exact sd) (by first | assumption | exact sd) sd sd) (enters_of Try.func24 kr rfl) rfl rfl rfl rfl rfl (fun t14 q15 => ?_))
   obtain ⟨B16, d17⟩ := t14
   refine lm rfl rfl rfl rfl rfl ?_
   refine lo rfl (pr_ext (vs := [(.slice B16 (n2 + 16) d17), (.int .i64 ((0 : Nat) : Int))]) rfl rfl rfl) rfl rfl ?_
   refine lo rfl (pr_ext (vs := [(.slice B16 (n2 + 16) d17), (.int .i64 ((0 : Nat) : Int))]) rfl rfl rfl) rfl rfl ?_
   refine la rfl rfl rfl rfl rfl ?_
   refine la rfl rfl rfl rfl rfl ?_
   refine L_nil ?_
   refine Tsr hF rfl ?_
   refine L_op rfl (op_cn (fun w hw => awake7_f  w (hok_nil w) ) (enters_of Try.func23 kr rfl) rfl rfl rfl rfl rfl (fun t18 q19 => ?_))
   refine lm rfl rfl rfl rfl rfl ?_
   refine lm rfl rfl rfl rfl rfl ?_
   refine lo rfl (pr_cmp (bo := .eql) (nc_eq (a := 0) (b := 0)) rfl rfl rfl rfl) rfl rfl ?_
   refine lo rfl (pr_pick_t rfl rfl rfl) rfl rfl ?_
   refine lm rfl rfl rfl rfl rfl ?_
   refine lm rfl rfl rfl rfl rfl ?_
   refine lo rfl (pr_cmp (bo := .eql) (nc_eq (a := 0) (b := 0)) rfl rfl rfl rfl) rfl rfl ?_
   refine lo rfl (pr_pick_t rfl rfl rfl) rfl rfl ?_
   refine lm rfl rfl rfl rfl rfl ?_
   refine lm rfl rfl rfl rfl rfl ?_
   refine lo rfl (pr_len_sl Try.underlying25 rfl rfl) rfl rfl ?_
   refine lm rfl rfl rfl rfl rfl ?_
   refine lo rfl (pr_len_sl Try.underlying25 rfl rfl) rfl rfl ?_
   refine lo rfl (pr_cmp (bo := .eql) (nc_eq (a := n2 + 16) (b := n2 + 16)) rfl rfl rfl rfl) rfl rfl ?_
   refine lo rfl (pr_pick_t rfl rfl rfl) rfl rfl ?_
   refine lm rfl rfl rfl rfl rfl ?_
   refine T_slot 55 (.bool (n2 + 16 == n2 + 16)) (.bool true) rfl (congrArg _ (by simp)) ?_
   refine lm rfl rfl rfl rfl rfl ?_
   refine lo rfl (pr_len_sl Try.underlying25 rfl rfl) rfl rfl ?_
   refine lm rfl rfl rfl rfl rfl ?_
   refine lo rfl (pr_len_sl Try.underlying25 rfl rfl) rfl rfl ?_
   refine lo rfl (pr_add (na_i64 (a := n2) (b := 16) sd) rfl rfl rfl) rfl rfl ?_
   refine lo rfl (pr_cmp (bo := .eql) (nc_eq (a := n2 + 16) (b := n2 + 16)) rfl rfl rfl rfl) rfl rfl ?_
   refine lo rfl (pr_pick_t rfl rfl rfl) rfl rfl ?_
   refine la rfl rfl rfl rfl rfl ?_
   refine L_nil ?_
   refine T_ret ?_
   refine T_slot 8 (.bool (n2 + 16 == n2 + 16)) (.bool true) rfl (by simp) ?_
   exact T_fin () (by first | trivial | omega | (simp; done)) (res1 rfl rfl) [] ⟨by decide, rfl⟩ rfl
theorem aseal_xor (key nonce aad a b : List (BitVec 8)) (n i : Nat) (ha : a.length = n) (hb : b.length = n) (hi : i < n) : ath (aseal key nonce aad a) i ^^^ ath (aseal key nonce aad b) i = ath a i ^^^ ath b i := by
  rw [← aseal_def, ← aseal_def, ath_app_l _ _ _ (by rw [cxor_len]; omega), ath_app_l _ _ _ (by rw [cxor_len]; omega), cxor_at _ _ _ _ _ (by omega), cxor_at _ _ _ _ _ (by omega)]
  generalize ath (cblock key (1#32 + BitVec.ofNat 32 (i / 64)) nonce) (i % 64) = k
  generalize ath a i = x
  generalize ath b i = y
  rw [BitVec.xor_assoc, BitVec.xor_comm y k, ← BitVec.xor_assoc k k y, BitVec.xor_self, BitVec.zero_xor]

set_option maxRecDepth 100000 in
set_option maxHeartbeats 4000000 in
theorem aeadStream_f (key : List (BitVec 8)) (nonce : List (BitVec 8)) (aad : List (BitVec 8)) (cs : List (BitVec 8)) (A1 : Option Addr) (n1 : Nat) (c1 : Nat) (A2 : Option Addr) (n2 : Nat) (c2 : Nat) (ds : List (BitVec 8)) (A3 : Option Addr) (n3 : Nat) (c3 : Nat) (w : World) (hO : HOK [.rd A1 1 n1 c1 (aad.map b8), .rd A2 1 n2 c2 (cs.map b8), .rd A3 1 n3 c3 (ds.map b8)] w) (hk : key.length = 32) (hn : nonce.length = 12) (h1 : aad.length = n1) (h2 : cs.length = n2) (h3 : ds.length = n3) : Calls Try.prog 13 [(.agg (key.map b8).toArray), (.agg (nonce.map b8).toArray), (.slice A1 n1 c1), (.slice A2 n2 c2), (.slice A3 n3 c3)].toArray w (Ret (T := Unit) [] w (fun _ => True) (fun _ => (.bool true)) (fun _ => [])) := by
 obtain ⟨mm, hmm⟩ : ∃ x : Nat, min n2 n3 = x := ⟨_, rfl⟩
 have hm2 : mm ≤ n2 ∧ mm ≤ n3 := by omega
 have hta : (List.take mm cs).length = mm := by rw [List.length_take]; omega
 have htb : (List.take mm ds).length = mm := by rw [List.length_take]; omega
 have hsa := aseal_len key nonce aad (List.take mm cs)
 have hsb := aseal_len key nonce aad (List.take mm ds)
 have hF : Wid Fence.wide := wid_wide
 refine enter (c := _) Try.func13 rfl [] [(.agg (key.map b8).toArray), (.agg (nonce.map b8).toArray), (.slice A1 n1 c1), (.slice A2 n2 c2), (.slice A3 n3 c3)] [.rd A1 1 n1 c1 (aad.map b8), .rd A2 1 n2 c2 (cs.map b8), .rd A3 1 n3 c3 (ds.map b8)] (by rw [Try.ntmps13]; rfl) (own_rds hO rfl) ?_
 rw [Try.ntmps13]
 refine T_re [(0, (.agg (key.map b8).toArray)), (1, (.agg (nonce.map b8).toArray)), (2, (.slice A1 n1 c1)), (3, (.slice A2 n2 c2)), (4, (.slice A3 n3 c3))] (sc rfl (sc rfl (sc rfl (sc rfl (sc rfl sn))))) ?_
 refine T_he [0, 1, 2] [.rd A1 1 n1 c1 (aad.map b8), .rd A2 1 n2 c2 (cs.map b8), .rd A3 1 n3 c3 (ds.map b8)] ⟨by decide, rfl⟩ ?_
 refine Tsr hF rfl ?_
 refine L_op rfl (op_box (zs := (key.map b8)) rfl rfl rfl rfl rfl (fun g1 => ?_))
 refine L_op rfl (op_box (zs := (nonce.map b8)) rfl rfl rfl rfl rfl (fun g2 => ?_))
 refine la rfl rfl rfl rfl rfl ?_
 refine L_nil ?_
 refine Tsr hF rfl ?_
 refine lm rfl rfl rfl rfl rfl ?_
 refine lo rfl (pr_len_sl Try.underlying25 rfl rfl) rfl rfl ?_
 refine lm rfl rfl rfl rfl rfl ?_
 refine lo rfl (pr_len_sl Try.underlying25 rfl rfl) rfl rfl ?_
 refine lo rfl ((pr_as (pr_min rfl rfl rfl) (nmin (k := .i64) (a := n2) (b := n3)))) rfl rfl ?_
 refine T_slot 21 (.int .i64 ((min n2 n3 : Nat) : Int)) (.int .i64 ((mm : Nat) : Int)) rfl (by rw [hmm]) ?_
 refine la rfl rfl rfl rfl rfl ?_
 refine L_nil ?_
 refine T_seq ?_
 refine Tsr hF rfl ?_
 refine lm rfl rfl rfl rfl rfl ?_
 refine lo rfl (pr_cmp (bo := .gtr) (nc_lt (a := 1000) (b := mm)) rfl rfl rfl rfl) rfl rfl ?_
 refine lm rfl rfl rfl rfl rfl ?_
 rcases Bool.eq_false_or_eq_true (decide (1000 < mm)) with hc_3 | hc_3
 ·
  refine T_slot 24 (.bool (decide (1000 < mm))) (.bool true) rfl (congrArg _ hc_3) ?_
  refine T_slot 23 (.bool (decide (1000 < mm))) (.bool true) rfl (congrArg _ hc_3) ?_
  have hc_3 := of_decide_eq_true hc_3
  refine L_skip rfl rfl rfl ?_
  refine L_skip rfl rfl rfl ?_
  refine L_skip rfl rfl rfl ?_
  refine lo rfl (pr_pick_t rfl rfl rfl) rfl rfl ?_
  refine L_nil ?_
  refine T_cond_t rfl ?_
  refine Tsr hF rfl ?_
  refine L_op rfl (op_cn (fun w hw => awake7_f  w (hok_nil w) ) (enters_of Try.func23 kr rfl) rfl rfl rfl rfl rfl (fun t4 q5 => ?_))
  refine la rfl rfl rfl rfl rfl ?_
  refine L_nil ?_
  refine T_ret ?_
  exact T_fin () (by first | trivial | omega | (simp; done)) (res1 rfl rfl) [] ⟨by decide, rfl⟩ rfl
 ·
  refine T_slot 24 (.bool (decide (1000 < mm))) (.bool false) rfl (congrArg _ hc_3) ?_
  refine T_slot 23 (.bool (decide (1000 < mm))) (.bool false) rfl (congrArg _ hc_3) ?_
  have hc_3 := of_decide_eq_false hc_3
  refine lm rfl rfl rfl rfl rfl ?_
  refine lo rfl (pr_len_sl Try.underlying25 rfl rfl) rfl rfl ?_
  refine lo rfl (pr_cmp (bo := .gtr) (nc_lt (a := 300) (b := n1)) rfl rfl rfl rfl) rfl rfl ?_
  refine lo rfl (pr_pick_f rfl rfl rfl) rfl rfl ?_
  refine L_nil ?_
  refine T_cond (decide (300 < n1)) rfl (fun hc_6 => ?_) (fun hc_6 => ?_)
  ·
   have hc_6 := of_decide_eq_true hc_6
   refine Tsr hF rfl ?_
   refine L_op rfl (op_cn (fun w hw => awake7_f  w (hok_nil w) ) (enters_of Try.func23 kr rfl) rfl rfl rfl rfl rfl (fun t7 q8 => ?_))
   refine la rfl rfl rfl rfl rfl ?_
   refine L_nil ?_
   refine T_ret ?_
   exact T_fin () (by first | trivial | omega | (simp; done)) (res1 rfl rfl) [] ⟨by decide, rfl⟩ rfl
  ·
   have hc_6 := of_decide_eq_false hc_6
   refine T_skip ?_
   refine T_seq ?_
   refine T_regD [.blk g2 38 (nonce.map b8), .blk g1 22 (key.map b8), .rd A1 1 n1 c1 (aad.map b8), .rd A2 1 n2 c2 (cs.map b8), .rd A3 1 n3 c3 (ds.map b8)] 12 12 #[false, false, false, false, false, false, false, false, false, false, false, false] hF kr kr ?_
   refine D_pure (i := 2) [0, 1, 2, 3, 4] rfl kr rfl (pr_move rfl rfl) (.inr rfl) rfl rfl ?_
   refine D_pure (i := 3) [0, 1, 2, 3, 4] rfl kr rfl (pr_move rfl rfl) (.inr rfl) rfl rfl ?_
   refine D_pure (i := 4) [0, 1, 2, 3, 4] rfl kr rfl (pr_move rfl rfl) (.inr rfl) rfl rfl ?_
   refine D_take (i := 0) [0, 1, 2, 3, 4] rfl kr rfl (ld_agg (ds := (key.map b8)) 1 rfl agg_all Try.underlying22 rfl (fwz (n := 32) kr sd) rfl rfl) rfl rfl rfl ?_
   refine D_take (i := 1) [0, 1, 2, 3, 4] rfl kr rfl (ld_agg (ds := (nonce.map b8)) 0 rfl agg_all Try.underlying38 rfl (fwz (n := 12) kr sd) rfl rfl) rfl rfl rfl ?_
   refine D_one 5 _ rfl kr rfl (op_slice_rd (l := 0) (u := mm) 3 rfl sd sd Try.underlying25 kr rfl rfl rfl ⟨_, rfl⟩ rfl rfl (fun B9 => ?_))
   refine T_as 0 _ (.rd B9 1 mm c2 ((List.take mm cs).map b8)) rfl (by congr 1; simp [List.map_take, List.map_drop] <;> omega) ?_
   refine T_slot 36 _ (.slice B9 mm c2) rfl (by congr 1) ?_
   refine D_on [1, 2, 3, 4, 5] rfl ?_
   refine D_one 6 _ rfl kr rfl (op_cn (fun w hw => seal_f key nonce aad (List.take mm cs) A1 n1 c1 B9 mm c2 w (hok_cons ((src_rd 3 rfl) w hw) (hok_cons ((src_rd 0 rfl) w hw) (hok_nil w))) (by first | assumption | exact sd) (by first | assumption | exact sd) (by first | assumption | exact sd) (by first | assumption | exact sd) sd sd) (enters_of Try.func24 kr rfl) rfl rfl rfl rfl rfl (fun t10 q11 => ?_))
   obtain ⟨B12, d13⟩ := t10
   refine D_on [2, 3, 4, 5, 6] rfl ?_
   refine D_pure (i := 7) [2, 3, 4, 5, 6] rfl kr rfl (pr_move rfl rfl) (.inr rfl) rfl rfl ?_
   refine D_pure (i := 8) [2, 3, 4, 5, 6] rfl kr rfl (pr_ext (vs := [(.slice B12 (mm + 16) d13), (.int .i64 ((0 : Nat) : Int))]) rfl rfl rfl) (.inr rfl) rfl rfl ?_
   refine D_pure (i := 9) [2, 3, 4, 5, 6] rfl kr rfl (pr_ext (vs := [(.slice B12 (mm + 16) d13), (.int .i64 ((0 : Nat) : Int))]) rfl rfl rfl) (.inr rfl) rfl rfl ?_
   refine D_pure (i := 10) [2, 3, 4, 5, 6] rfl kr rfl (pr_assign rfl rfl) (.inr rfl) rfl rfl ?_
   refine D_pure (i := 11) [2, 3, 4, 5, 6] rfl kr rfl (pr_assign rfl rfl) (.inr rfl) rfl rfl ?_
   refine D_done kr ?_
   refine T_seq ?_
   refine T_regD [.row (.slice B12 (mm + 16) d13) 5 1 (mm + 16) ((aseal key nonce aad (List.take mm cs)).map b8), .rd B9 1 mm c2 ((List.take mm cs).map b8), .blk g2 38 (nonce.map b8), .blk g1 22 (key.map b8), .rd A1 1 n1 c1 (aad.map b8), .rd A2 1 n2 c2 (cs.map b8), .rd A3 1 n3 c3 (ds.map b8)] 12 12 #[false, false, false, false, false, false, false, false, false, false, false, false] hF kr kr ?_
   refine D_pure (i := 2) [0, 1, 2, 3, 4, 5, 6] rfl kr rfl (pr_move rfl rfl) (.inr rfl) rfl rfl ?_
   refine D_pure (i := 3) [0, 1, 2, 3, 4, 5, 6] rfl kr rfl (pr_move rfl rfl) (.inr rfl) rfl rfl ?_
   refine D_pure (i := 4) [0, 1, 2, 3, 4, 5, 6] rfl kr rfl (pr_move rfl rfl) (.inr rfl) rfl rfl ?_
   refine D_take (i := 0) [0, 1, 2, 3, 4, 5, 6] rfl kr rfl (ld_agg (ds := (key.map b8)) 3 rfl agg_all Try.underlying22 rfl (fwz (n := 32) kr sd) rfl rfl) rfl rfl rfl ?_
   refine D_take (i := 1) [0, 1, 2, 3, 4, 5, 6] rfl kr rfl (ld_agg (ds := (nonce.map b8)) 2 rfl agg_all Try.underlying38 rfl (fwz (n := 12) kr sd) rfl rfl) rfl rfl rfl ?_
   refine D_one 5 _ rfl kr rfl (op_slice_rd (l := 0) (u := mm) 6 rfl sd sd Try.underlying25 kr rfl rfl rfl ⟨_, rfl⟩ rfl rfl (fun B14 => ?_))
   refine T_as 0 _ (.rd B14 1 mm c3 ((List.take mm ds).map b8)) rfl (by congr 1; simp [List.map_take, List.map_drop] <;> omega) ?_
   refine T_slot 46 _ (.slice B14 mm c3) rfl (by congr 1) ?_
   refine D_on [1, 2, 3, 4, 5, 6, 7] rfl ?_
   refine D_one 6 _ rfl kr rfl (op_cn (fun w hw => seal_f key nonce aad (List.take mm ds) A1 n1 c1 B14 mm c3 w (hok_cons ((src_rd 5 rfl) w hw) (hok_cons ((src_rd 0 rfl) w hw) (hok_nil w))) (by first | assumption | exact sd) (by first | assumption | exact sd) (by first | assumption | exact sd) (by first | assumption | exact sd) sd sd) (enters_of Try.func24 kr rfl) rfl rfl rfl rfl rfl (fun t15 q16 => ?_))
   obtain ⟨B17, d18⟩ := t15
   refine D_on [2, 3, 4, 5, 6, 7, 8] rfl ?_
   refine D_pure (i := 7) [2, 3, 4, 5, 6, 7, 8] rfl kr rfl (pr_move rfl rfl) (.inr rfl) rfl rfl ?_
   refine D_pure (i := 8) [2, 3, 4, 5, 6, 7, 8] rfl kr rfl (pr_ext (vs := [(.slice B17 (mm + 16) d18), (.int .i64 ((0 : Nat) : Int))]) rfl rfl rfl) (.inr rfl) rfl rfl ?_
   refine D_pure (i := 9) [2, 3, 4, 5, 6, 7, 8] rfl kr rfl (pr_ext (vs := [(.slice B17 (mm + 16) d18), (.int .i64 ((0 : Nat) : Int))]) rfl rfl rfl) (.inr rfl) rfl rfl ?_
   refine D_pure (i := 10) [2, 3, 4, 5, 6, 7, 8] rfl kr rfl (pr_assign rfl rfl) (.inr rfl) rfl rfl ?_
   refine D_pure (i := 11) [2, 3, 4, 5, 6, 7, 8] rfl kr rfl (pr_assign rfl rfl) (.inr rfl) rfl rfl ?_
   refine D_done kr ?_
   refine T_seq ?_
   refine Tsr hF rfl ?_
   refine L_op rfl (op_cn (fun w hw => awake7_f  w (hok_nil w) ) (enters_of Try.func23 kr rfl) rfl rfl rfl rfl rfl (fun t19 q20 => ?_))
   refine lo rfl (pr_un (v := .bool false) rfl rfl rfl) rfl rfl ?_
   refine lm rfl rfl rfl rfl rfl ?_
   refine lm rfl rfl rfl rfl rfl ?_
   refine lo rfl (pr_cmp (bo := .neq) (nc_ne (a := 0) (b := 0)) rfl rfl rfl rfl) rfl rfl ?_
   refine lo rfl (pr_pick_f rfl rfl rfl) rfl rfl ?_
   refine lm rfl rfl rfl rfl rfl ?_
   refine lm rfl rfl rfl rfl rfl ?_
   refine lo rfl (pr_cmp (bo := .neq) (nc_ne (a := 0) (b := 0)) rfl rfl rfl rfl) rfl rfl ?_
   refine lo rfl (pr_pick_f rfl rfl rfl) rfl rfl ?_
   refine lm rfl rfl rfl rfl rfl ?_
   refine lm rfl rfl rfl rfl rfl ?_
   refine lo rfl (pr_len_sl Try.underlying25 rfl rfl) rfl rfl ?_
   refine lm rfl rfl rfl rfl rfl ?_
   refine lo rfl (pr_add (na_i64 (a := mm) (b := 16) sd) rfl rfl rfl) rfl rfl ?_
   refine lo rfl (pr_cmp (bo := .neq) (nc_ne (a := mm + 16) (b := mm + 16)) rfl rfl rfl rfl) rfl rfl ?_
   refine lo rfl (pr_pick_f rfl rfl rfl) rfl rfl ?_
   refine lm rfl rfl rfl rfl rfl ?_
   refine T_slot 67 (.bool (mm + 16 != mm + 16)) (.bool false) rfl (congrArg _ (by simp)) ?_
   refine lm rfl rfl rfl rfl rfl ?_
   refine lo rfl (pr_len_sl Try.underlying25 rfl rfl) rfl rfl ?_
   refine lm rfl rfl rfl rfl rfl ?_
   refine lo rfl (pr_add (na_i64 (a := mm) (b := 16) sd) rfl rfl rfl) rfl rfl ?_
   refine lo rfl (pr_cmp (bo := .neq) (nc_ne (a := mm + 16) (b := mm + 16)) rfl rfl rfl rfl) rfl rfl ?_
   refine lo rfl (pr_pick_f rfl rfl rfl) rfl rfl ?_
   refine L_nil ?_
   refine T_cond_no (t := (mm + 16 != mm + 16)) rfl (by simp) ?_
   refine T_skip ?_
   refine T_seq ?_
   refine Tsr hF rfl ?_
   refine la rfl rfl rfl rfl rfl ?_
   refine L_nil ?_
   refine T_block ?_
   refine T_loop (T := Nat) (fun i => i ≤ mm) (fun i => [(3, (.slice A2 n2 c2)), (4, (.slice A3 n3 c3)), (11, (.int .i64 ((mm : Nat) : Int))), (12, (.slice B12 (mm + 16) d13)), (14, (.slice B17 (mm + 16) d18)), (16, (.int .i64 ((i : Nat) : Int)))]) (fun i => [.row (.slice B17 (mm + 16) d18) 5 1 (mm + 16) ((aseal key nonce aad (List.take mm ds)).map b8), .rd B14 1 mm c3 ((List.take mm ds).map b8), .row (.slice B12 (mm + 16) d13) 5 1 (mm + 16) ((aseal key nonce aad (List.take mm cs)).map b8), .rd B9 1 mm c2 ((List.take mm cs).map b8), .blk g2 38 (nonce.map b8), .blk g1 22 (key.map b8), .rd A1 1 n1 c1 (aad.map b8), .rd A2 1 n2 c2 (cs.map b8), .rd A3 1 n3 c3 (ds.map b8)]) (fun i => mm - i) 0 (by first | trivial | ((try dsimp only); first | omega | (refine ⟨?_, ?_⟩ <;> omega) | (refine ⟨?_, ?_, ?_⟩ <;> omega) | (simp; done) | (simp; omega))) (sc rfl (sc rfl (sc rfl (sc rfl (sc rfl (sc rfl sn)))))) [0, 1, 2, 3, 4, 5, 6, 7, 8] ⟨by decide, rfl⟩ ?_
   rintro i hp
   have hp : i ≤ mm := hp
   refine T_re [(3, (.slice A2 n2 c2)), (4, (.slice A3 n3 c3)), (11, (.int .i64 ((mm : Nat) : Int))), (12, (.slice B12 (mm + 16) d13)), (14, (.slice B17 (mm + 16) d18)), (16, (.int .i64 ((i : Nat) : Int)))] (sc rfl (sc rfl (sc rfl (sc rfl (sc rfl (sc rfl sn)))))) ?_
   refine T_he [0, 1, 2, 3, 4, 5, 6, 7, 8] [.row (.slice B17 (mm + 16) d18) 5 1 (mm + 16) ((aseal key nonce aad (List.take mm ds)).map b8), .rd B14 1 mm c3 ((List.take mm ds).map b8), .row (.slice B12 (mm + 16) d13) 5 1 (mm + 16) ((aseal key nonce aad (List.take mm cs)).map b8), .rd B9 1 mm c2 ((List.take mm cs).map b8), .blk g2 38 (nonce.map b8), .blk g1 22 (key.map b8), .rd A1 1 n1 c1 (aad.map b8), .rd A2 1 n2 c2 (cs.map b8), .rd A3 1 n3 c3 (ds.map b8)] ⟨by decide, rfl⟩ ?_
   refine T_seq ?_
   refine Tsr hF rfl ?_
   refine lm rfl rfl rfl rfl rfl ?_
   refine lm rfl rfl rfl rfl rfl ?_
   refine lo rfl (pr_cmp (bo := .lss) (nc_lt (a := i) (b := mm)) rfl rfl rfl rfl) rfl rfl ?_
   refine L_nil ?_
   refine T_cond (decide (i < mm)) rfl (fun hc_22 => ?_) (fun hc_22 => ?_)
   ·
    have hc_22 := of_decide_eq_true hc_22
    refine T_skip ?_
    refine T_seq ?_
    refine T_block ?_
    refine T_seq ?_
    refine T_regD [.row (.slice B17 (mm + 16) d18) 5 1 (mm + 16) ((aseal key nonce aad (List.take mm ds)).map b8), .rd B14 1 mm c3 ((List.take mm ds).map b8), .row (.slice B12 (mm + 16) d13) 5 1 (mm + 16) ((aseal key nonce aad (List.take mm cs)).map b8), .rd B9 1 mm c2 ((List.take mm cs).map b8), .blk g2 38 (nonce.map b8), .blk g1 22 (key.map b8), .rd A1 1 n1 c1 (aad.map b8), .rd A2 1 n2 c2 (cs.map b8), .rd A3 1 n3 c3 (ds.map b8)] 19 19 #[false, false, false, false, false, false, false, false, false, false, false, false, false, false, false, false, false, false, false] hF kr kr ?_
    refine D_pure (i := 0) [0, 1, 2, 3, 4, 5, 6, 7, 8] rfl kr rfl (pr_move rfl rfl) (.inr rfl) rfl rfl ?_
    refine D_pure (i := 1) [0, 1, 2, 3, 4, 5, 6, 7, 8] rfl kr rfl (pr_move rfl rfl) (.inr rfl) rfl rfl ?_
    refine D_pure (i := 2) [0, 1, 2, 3, 4, 5, 6, 7, 8] rfl kr rfl (pr_ixs1 (j := i) (src_none (src_row 2 rfl)) sd Try.underlying25 kr rfl rfl rfl) (.inr rfl) rfl rfl ?_
    refine D_pure (i := 4) [0, 1, 2, 3, 4, 5, 6, 7, 8] rfl kr rfl (pr_move rfl rfl) (.inr rfl) rfl rfl ?_
    refine D_pure (i := 5) [0, 1, 2, 3, 4, 5, 6, 7, 8] rfl kr rfl (pr_move rfl rfl) (.inr rfl) rfl rfl ?_
    refine D_pure (i := 6) [0, 1, 2, 3, 4, 5, 6, 7, 8] rfl kr rfl (pr_ixs1 (j := i) (src_none (src_row 0 rfl)) sd Try.underlying25 kr rfl rfl rfl) (.inr rfl) rfl rfl ?_
    refine D_pure (i := 9) [0, 1, 2, 3, 4, 5, 6, 7, 8] rfl kr rfl (pr_move rfl rfl) (.inr rfl) rfl rfl ?_
    refine D_pure (i := 10) [0, 1, 2, 3, 4, 5, 6, 7, 8] rfl kr rfl (pr_move rfl rfl) (.inr rfl) rfl rfl ?_
    refine D_pure (i := 11) [0, 1, 2, 3, 4, 5, 6, 7, 8] rfl kr rfl (pr_ixs1 (j := i) (src_none (src_rd 7 rfl)) sd Try.underlying25 kr rfl rfl rfl) (.inr rfl) rfl rfl ?_
    refine D_pure (i := 13) [0, 1, 2, 3, 4, 5, 6, 7, 8] rfl kr rfl (pr_move rfl rfl) (.inr rfl) rfl rfl ?_
    refine D_pure (i := 14) [0, 1, 2, 3, 4, 5, 6, 7, 8] rfl kr rfl (pr_move rfl rfl) (.inr rfl) rfl rfl ?_
    refine D_pure (i := 15) [0, 1, 2, 3, 4, 5, 6, 7, 8] rfl kr rfl (pr_ixs1 (j := i) (src_none (src_rd 8 rfl)) sd Try.underlying25 kr rfl rfl rfl) (.inr rfl) rfl rfl ?_
    refine D_take (i := 3) [0, 1, 2, 3, 4, 5, 6, 7, 8] rfl kr rfl (ld_src (m := i) (src_row 2 rfl) (get8 sd) Try.underlying5 rfl rfl rfl) rfl rfl rfl ?_
    refine D_take (i := 7) [0, 1, 2, 3, 4, 5, 6, 7, 8] rfl kr rfl (ld_src (m := i) (src_row 0 rfl) (get8 sd) Try.underlying5 rfl rfl rfl) rfl rfl rfl ?_
    refine D_pure (i := 8) [0, 1, 2, 3, 4, 5, 6, 7, 8] rfl kr rfl (pr_xor (ib_xor8 _ _) rfl rfl rfl) (.inr rfl) rfl rfl ?_
    refine D_take (i := 12) [0, 1, 2, 3, 4, 5, 6, 7, 8] rfl kr rfl (ld_src (m := i) (src_rd 7 rfl) (get8 sd) Try.underlying5 rfl rfl rfl) rfl rfl rfl ?_
    refine D_take (i := 16) [0, 1, 2, 3, 4, 5, 6, 7, 8] rfl kr rfl (ld_src (m := i) (src_rd 8 rfl) (get8 sd) Try.underlying5 rfl rfl rfl) rfl rfl rfl ?_
    refine D_pure (i := 17) [0, 1, 2, 3, 4, 5, 6, 7, 8] rfl kr rfl (pr_xor (ib_xor8 _ _) rfl rfl rfl) (.inr rfl) rfl rfl ?_
    refine D_pure (i := 18) [0, 1, 2, 3, 4, 5, 6, 7, 8] rfl kr rfl (pr_cmp (bo := .neq) (n8_bne ((ath (aseal key nonce aad (List.take mm cs)) i) ^^^ (ath (aseal key nonce aad (List.take mm ds)) i)) ((ath cs i) ^^^ (ath ds i))) rfl rfl rfl rfl) (.inr rfl) rfl rfl ?_
    refine D_done kr ?_
    refine T_cond_no (t := (((ath (aseal key nonce aad (List.take mm cs)) i) ^^^ (ath (aseal key nonce aad (List.take mm ds)) i)) != ((ath cs i) ^^^ (ath ds i)))) rfl (by rw [aseal_xor key nonce aad _ _ mm i hta htb (by omega), ath_take _ _ _ (by omega), ath_take _ _ _ (by omega)]; simp) ?_
    refine T_skip ?_
    refine T_reg hF rfl ?_
    refine lm rfl rfl rfl rfl rfl ?_
    refine lo rfl (pr_add (na_i64 (a := i) (b := 1) sd) rfl rfl rfl) rfl rfl ?_
    refine la rfl rfl rfl rfl rfl ?_
    refine L_nil ?_
    exact T_again (i + 1) (by first | trivial | ((try dsimp only); first | omega | (refine ⟨?_, ?_⟩ <;> omega) | (refine ⟨?_, ?_, ?_⟩ <;> omega) | (simp; done) | (simp; omega))) (by first | trivial | ((try dsimp only); first | omega | (refine ⟨?_, ?_⟩ <;> omega) | (refine ⟨?_, ?_, ?_⟩ <;> omega) | (simp; done) | (simp; omega))) (sc rfl (sc rfl (sc rfl (sc rfl (sc rfl (sc rfl sn)))))) [0, 1, 2, 3, 4, 5, 6, 7, 8] ⟨by decide, rfl⟩
   ·
    have hc_22 := of_decide_eq_false hc_22
    refine T_exit rfl ?_
    refine Tsr hF rfl ?_
    refine la rfl rfl rfl rfl rfl ?_
    refine L_nil ?_
    refine T_ret ?_
    exact T_fin () (by first | trivial | omega | (simp; done)) (res1 rfl rfl) [] ⟨by decide, rfl⟩ rfl
end Go.Proofs.Ytemjinkdfjoicaa
