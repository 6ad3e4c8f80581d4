/- AeadOpens, walked by facts. -/
import Derived.Test.YtemjinkdfjoicaaGLAeA
import Derived.Test.YtemjinkdfjoicaaProg
import Derived.Test.YtemjinkdfjoicaaFwU
namespace Go.Proofs.Ytemjinkdfjoicaa
set_option linter.unusedVariables false
set_option linter.unusedSimpArgs false
set_option linter.unnecessarySimpa false
open Go.RowKit Bv Fw

set_option maxRecDepth 100000 in
set_option maxHeartbeats 4000000 in
theorem opens_ok_f (key : List (BitVec 8)) (nonce : List (BitVec 8)) (aad : List (BitVec 8)) (cs : List (BitVec 8)) (A1 : Option Addr) (n1 : Nat) (c1 : Nat) (A2 : Option Addr) (n2 : Nat) (c2 : Nat) (w : World) (hO : HOK [.rd A1 1 n1 c1 (aad.map b8), .rd A2 1 n2 c2 (cs.map b8)] w) (hk : key.length = 32) (hn : nonce.length = 12) (h1 : aad.length = n1) (h2 : cs.length = n2) (h4 : 16 ≤ n2) (hg : agood key nonce aad cs) : Calls Try.prog 10 [(.agg (key.map b8).toArray), (.agg (nonce.map b8).toArray), (.slice A1 n1 c1), (.slice A2 n2 c2)].toArray w (Ret (T := Unit) [] w (fun _ => True) (fun _ => (.bool true)) (fun _ => [])) := by
 have hpl := aplain_len key nonce cs
 have hF : Wid Fence.wide := wid_wide
 refine enter (c := _) Try.func10 rfl [] [(.agg (key.map b8).toArray), (.agg (nonce.map b8).toArray), (.slice A1 n1 c1), (.slice A2 n2 c2)] [.rd A1 1 n1 c1 (aad.map b8), .rd A2 1 n2 c2 (cs.map b8)] (by rw [Try.ntmps10]; rfl) (own_rds hO rfl) ?_
 rw [Try.ntmps10]
 refine T_re [(0, (.agg (key.map b8).toArray)), (1, (.agg (nonce.map b8).toArray)), (2, (.slice A1 n1 c1)), (3, (.slice A2 n2 c2))] (sc rfl (sc rfl (sc rfl (sc rfl sn)))) ?_
 refine T_he [0, 1] [.rd A1 1 n1 c1 (aad.map b8), .rd A2 1 n2 c2 (cs.map b8)] ⟨by decide, rfl⟩ ?_
 refine Tsr hF rfl ?_
 refine L_op rfl (op_box (zs := (key.map b8)) rfl rfl rfl rfl rfl (fun g1 => ?_))
 refine L_op rfl (op_box (zs := (nonce.map b8)) rfl rfl rfl rfl rfl (fun g2 => ?_))
 refine la rfl rfl rfl rfl rfl ?_
 refine L_nil ?_
 refine T_seq ?_
 refine Tsr hF rfl ?_
 refine lm rfl rfl rfl rfl rfl ?_
 refine lo rfl (pr_len_sl Try.underlying25 rfl rfl) rfl rfl ?_
 refine lo rfl (pr_cmp (bo := .gtr) (nc_lt (a := 500) (b := n1)) rfl rfl rfl rfl) rfl rfl ?_
 refine lm rfl rfl rfl rfl rfl ?_
 rcases Bool.eq_false_or_eq_true (decide (500 < n1)) with hc_3 | hc_3
 ·
  refine T_slot 18 (.bool (decide (500 < n1))) (.bool true) rfl (congrArg _ hc_3) ?_
  refine T_slot 17 (.bool (decide (500 < n1))) (.bool true) rfl (congrArg _ hc_3) ?_
  have hc_3 := of_decide_eq_true hc_3
  refine L_skip rfl rfl rfl ?_
  refine L_skip rfl rfl rfl ?_
  refine L_skip rfl rfl rfl ?_
  refine lo rfl (pr_pick_t rfl rfl rfl) rfl rfl ?_
  refine L_nil ?_
  refine T_cond_t rfl ?_
  refine Tsr hF rfl ?_
  refine L_op rfl (op_cn (fun w hw => awake7_f  w (hok_nil w) ) (enters_of Try.func23 kr rfl) rfl rfl rfl rfl rfl (fun t4 q5 => ?_))
  refine la rfl rfl rfl rfl rfl ?_
  refine L_nil ?_
  refine T_ret ?_
  exact T_fin () (by first | trivial | omega | (simp; done)) (res1 rfl rfl) [] ⟨by decide, rfl⟩ rfl
 ·
  refine T_slot 18 (.bool (decide (500 < n1))) (.bool false) rfl (congrArg _ hc_3) ?_
  refine T_slot 17 (.bool (decide (500 < n1))) (.bool false) rfl (congrArg _ hc_3) ?_
  have hc_3 := of_decide_eq_false hc_3
  refine lm rfl rfl rfl rfl rfl ?_
  refine lo rfl (pr_len_sl Try.underlying25 rfl rfl) rfl rfl ?_
  refine lo rfl (pr_cmp (bo := .gtr) (nc_lt (a := 1500) (b := n2)) rfl rfl rfl rfl) rfl rfl ?_
  refine lo rfl (pr_pick_f rfl rfl rfl) rfl rfl ?_
  refine L_nil ?_
  refine T_cond (decide (1500 < n2)) rfl (fun hc_6 => ?_) (fun hc_6 => ?_)
  ·
   have hc_6 := of_decide_eq_true hc_6
   refine Tsr hF rfl ?_
   refine L_op rfl (op_cn (fun w hw => awake7_f  w (hok_nil w) ) (enters_of Try.func23 kr rfl) rfl rfl rfl rfl rfl (fun t7 q8 => ?_))
   refine la rfl rfl rfl rfl rfl ?_
   refine L_nil ?_
   refine T_ret ?_
   exact T_fin () (by first | trivial | omega | (simp; done)) (res1 rfl rfl) [] ⟨by decide, rfl⟩ rfl
  ·
   have hc_6 := of_decide_eq_false hc_6
   refine T_skip ?_
   refine Tsr hF rfl ?_
   refine lm rfl rfl rfl rfl rfl ?_
   refine L_op rfl (op_cn (fun w hw => own_f aad (71#8) A1 n1 c1 w (hok_cons ((src_rd 2 rfl) w hw) (hok_nil w)) sd sd) (enters_of Try.func17 kr rfl) rfl rfl rfl rfl rfl (fun t9 q10 => ?_))
   obtain ⟨B11, d12⟩ := t9
   have q10 : n1 + 3 ≤ d12 := q10
   refine lm rfl rfl rfl rfl rfl ?_
   refine L_op rfl (op_cn (fun w hw => own_f cs (71#8) A2 n2 c2 w (hok_cons ((src_rd 5 rfl) w hw) (hok_nil w)) sd sd) (enters_of Try.func17 kr rfl) rfl rfl rfl rfl rfl (fun t13 q14 => ?_))
   obtain ⟨B15, d16⟩ := t13
   have q14 : n2 + 3 ≤ d16 := q14
   refine la rfl rfl rfl rfl rfl ?_
   refine la rfl rfl rfl rfl rfl ?_
   refine L_nil ?_
   refine Tsr hF rfl ?_
   refine lq rfl (ld_agg (ds := (key.map b8)) 5 rfl agg_all Try.underlying22 rfl (fwz (n := 32) kr sd) rfl rfl) rfl rfl ?_
   refine lq rfl (ld_agg (ds := (nonce.map b8)) 4 rfl agg_all Try.underlying38 rfl (fwz (n := 12) kr sd) rfl rfl) rfl rfl ?_
   refine lm rfl rfl rfl rfl rfl ?_
   refine lm rfl rfl rfl rfl rfl ?_
   refine L_op rfl (op_cn (fun w hw => open_ok_f key nonce aad cs B11 n1 d12 B15 n2 d16 w (hok_cons ((src_old 3 rfl) w hw) (hok_cons ((src_old 1 rfl) w hw) (hok_nil w))) (by first | assumption | exact sd) (by first | assumption | exact sd) (by first | assumption | exact sd) (by first | assumption | exact sd) sd sd sd hg) (enters_of Try.func27 kr rfl) rfl rfl rfl rfl rfl (fun t17 q18 => ?_))
   obtain ⟨B19, d20⟩ := t17
   refine lm rfl rfl rfl rfl rfl ?_
   refine lo rfl (pr_ext (vs := [(.slice B19 (n2 - 16) d20), (.int .i64 ((0 : Nat) : Int))]) rfl rfl rfl) rfl rfl ?_
   refine lo rfl (pr_ext (vs := [(.slice B19 (n2 - 16) d20), (.int .i64 ((0 : Nat) : Int))]) rfl rfl rfl) rfl rfl ?_
   refine la rfl rfl rfl rfl rfl ?_
   refine la rfl rfl rfl rfl rfl ?_
   refine L_nil ?_
   refine Tsr hF rfl ?_
   refine lq rfl (ld_agg (ds := (key.map b8)) 6 rfl agg_all Try.underlying22 rfl (fwz (n := 32) kr sd) rfl rfl) rfl rfl ?_
   refine lq rfl (ld_agg (ds := (nonce.map b8)) 5 rfl agg_all Try.underlying38 rfl (fwz (n := 12) kr sd) rfl rfl) rfl rfl ?_
   refine lm rfl rfl rfl rfl rfl ?_
   refine lm rfl rfl rfl rfl rfl ?_
   refine L_op rfl (op_cn (fun w hw => ropen_ok_f key nonce aad cs A1 n1 c1 A2 n2 c2 w (hok_cons ((src_rd 7 rfl) w hw) (hok_cons ((src_rd 8 rfl) w hw) (hok_nil w))) (by first | assumption | exact sd) (by first | assumption | exact sd) (by first | assumption | exact sd) (by first | assumption | exact sd) sd sd sd hg) (enters_of Try.func28 kr rfl) rfl rfl rfl rfl rfl (fun t21 q22 => ?_))
   obtain ⟨B23, d24⟩ := t21
   refine lm rfl rfl rfl rfl rfl ?_
   refine lo rfl (pr_ext (vs := [(.slice B23 (n2 - 16) d24), (.int .i64 ((0 : Nat) : Int))]) rfl rfl rfl) rfl rfl ?_
   refine lo rfl (pr_ext (vs := [(.slice B23 (n2 - 16) d24), (.int .i64 ((0 : Nat) : Int))]) rfl rfl rfl) rfl rfl ?_
   refine la rfl rfl rfl rfl rfl ?_
   refine la rfl rfl rfl rfl rfl ?_
   refine L_nil ?_
   refine T_seq ?_
   refine Tsr hF rfl ?_
   refine L_op rfl (op_cn (fun w hw => awake7_f  w (hok_nil w) ) (enters_of Try.func23 kr rfl) rfl rfl rfl rfl rfl (fun t25 q26 => ?_))
   refine lo rfl (pr_un (v := .bool false) rfl rfl rfl) rfl rfl ?_
   refine lm rfl rfl rfl rfl rfl ?_
   refine lm rfl rfl rfl rfl rfl ?_
   refine lm rfl rfl rfl rfl rfl ?_
   refine L_op rfl (op_cn (fun w hw => bytes_f (aplain key nonce cs) (aplain key nonce cs) B19 (n2 - 16) d20 B23 (n2 - 16) d24 w (hok_cons ((src_row 1 rfl) w hw) (hok_cons ((src_row 0 rfl) w hw) (hok_nil w))) ) (enters_of Try.func26 kr rfl) rfl rfl rfl rfl rfl (fun t27 q28 => ?_))
   refine lo rfl (pr_un rfl rfl rfl) rfl rfl ?_
   refine lo rfl (pr_pick_f rfl rfl rfl) rfl rfl ?_
   refine lm rfl rfl rfl rfl rfl ?_
   refine T_slot 52 _ (.bool false) rfl (congrArg _ (by simp)) ?_
   refine lm rfl rfl rfl rfl rfl ?_
   refine lm rfl rfl rfl rfl rfl ?_
   refine lo rfl (pr_cmp (bo := .neq) (nc_ne (a := 0) (b := 0)) rfl rfl rfl rfl) rfl rfl ?_
   refine lo rfl (pr_pick_f rfl rfl rfl) rfl rfl ?_
   refine L_nil ?_
   refine T_cond_f rfl ?_
   refine T_skip ?_
   refine Tsr hF rfl ?_
   refine lm rfl rfl rfl rfl rfl ?_
   refine L_op rfl (op_c1 1 rfl (fun w hw => spoil_f (aplain key nonce cs) B19 (n2 - 16) d20 w (hw _ (List.mem_of_getElem? (i := 1) rfl)) sd sd) (enters_of Try.func29 kr rfl) rfl rfl rfl rfl rfl (fun t30 q31 => ?_))
   refine L_nil ?_
   refine Tsr hF rfl ?_
   refine lm rfl rfl rfl rfl rfl ?_
   refine lm rfl rfl rfl rfl rfl ?_
   refine L_op rfl (op_cn (fun w hw => kept_f aad (71#8) B11 n1 d12 A1 c1 w (hok_cons ((src_old 4 rfl) w hw) (hok_cons ((src_old 3 rfl) w hw) (hok_cons ((src_rd 7 rfl) w hw) (hok_nil w)))) sd sd sd) (enters_of Try.func22 kr rfl) rfl rfl rfl rfl rfl (fun t32 q33 => ?_))
   refine lm rfl rfl rfl rfl rfl ?_
   refine lm rfl rfl rfl rfl rfl ?_
   refine lm rfl rfl rfl rfl rfl ?_
   refine L_op rfl (op_cn (fun w hw => kept_f cs (71#8) B15 n2 d16 A2 c2 w (hok_cons ((src_old 2 rfl) w hw) (hok_cons ((src_old 1 rfl) w hw) (hok_cons ((src_rd 8 rfl) w hw) (hok_nil w)))) sd sd sd) (enters_of Try.func22 kr rfl) rfl rfl rfl rfl rfl (fun t34 q35 => ?_))
   refine lo rfl (pr_pick_t rfl rfl rfl) rfl rfl ?_
   refine la rfl rfl rfl rfl rfl ?_
   refine L_nil ?_
   refine T_ret ?_
   exact T_fin () (by first | trivial | omega | (simp; done)) (res1 rfl rfl) [] ⟨by decide, rfl⟩ rfl
set_option maxRecDepth 100000 in
set_option maxHeartbeats 4000000 in
theorem opens_bad_f (key : List (BitVec 8)) (nonce : List (BitVec 8)) (aad : List (BitVec 8)) (cs : List (BitVec 8)) (A1 : Option Addr) (n1 : Nat) (c1 : Nat) (A2 : Option Addr) (n2 : Nat) (c2 : Nat) (w : World) (hO : HOK [.rd A1 1 n1 c1 (aad.map b8), .rd A2 1 n2 c2 (cs.map b8)] w) (hk : key.length = 32) (hn : nonce.length = 12) (h1 : aad.length = n1) (h2 : cs.length = n2) (h4 : 16 ≤ n2) (hg : ¬ agood key nonce aad cs) : Calls Try.prog 10 [(.agg (key.map b8).toArray), (.agg (nonce.map b8).toArray), (.slice A1 n1 c1), (.slice A2 n2 c2)].toArray w (Ret (T := Unit) [] w (fun _ => True) (fun _ => (.bool true)) (fun _ => [])) := by
 have hpl := aplain_len key nonce cs
 have hF : Wid Fence.wide := wid_wide
 refine enter (c := _) Try.func10 rfl [] [(.agg (key.map b8).toArray), (.agg (nonce.map b8).toArray), (.slice A1 n1 c1), (.slice A2 n2 c2)] [.rd A1 1 n1 c1 (aad.map b8), .rd A2 1 n2 c2 (cs.map b8)] (by rw [Try.ntmps10]; rfl) (own_rds hO rfl) ?_
 rw [Try.ntmps10]
 refine T_re [(0, (.agg (key.map b8).toArray)), (1, (.agg (nonce.map b8).toArray)), (2, (.slice A1 n1 c1)), (3, (.slice A2 n2 c2))] (sc rfl (sc rfl (sc rfl (sc rfl sn)))) ?_
 refine T_he [0, 1] [.rd A1 1 n1 c1 (aad.map b8), .rd A2 1 n2 c2 (cs.map b8)] ⟨by decide, rfl⟩ ?_
 refine Tsr hF rfl ?_
 refine L_op rfl (op_box (zs := (key.map b8)) rfl rfl rfl rfl rfl (fun g1 => ?_))
 refine L_op rfl (op_box (zs := (nonce.map b8)) rfl rfl rfl rfl rfl (fun g2 => ?_))
 refine la rfl rfl rfl rfl rfl ?_
 refine L_nil ?_
 refine T_seq ?_
 refine Tsr hF rfl ?_
 refine lm rfl rfl rfl rfl rfl ?_
 refine lo rfl (pr_len_sl Try.underlying25 rfl rfl) rfl rfl ?_
 refine lo rfl (pr_cmp (bo := .gtr) (nc_lt (a := 500) (b := n1)) rfl rfl rfl rfl) rfl rfl ?_
 refine lm rfl rfl rfl rfl rfl ?_
 rcases Bool.eq_false_or_eq_true (decide (500 < n1)) with hc_3 | hc_3
 ·
  refine T_slot 18 (.bool (decide (500 < n1))) (.bool true) rfl (congrArg _ hc_3) ?_
  refine T_slot 17 (.bool (decide (500 < n1))) (.bool true) rfl (congrArg _ hc_3) ?_
  have hc_3 := of_decide_eq_true hc_3
  refine L_skip rfl rfl rfl ?_
  refine L_skip rfl rfl rfl ?_
  refine L_skip rfl rfl rfl ?_
  refine lo rfl (pr_pick_t rfl rfl rfl) rfl rfl ?_
  refine L_nil ?_
  refine T_cond_t rfl ?_
  refine Tsr hF rfl ?_
  refine L_op rfl (op_cn (fun w hw => awake7_f  w (hok_nil w) ) (enters_of Try.func23 kr rfl) rfl rfl rfl rfl rfl (fun t4 q5 => ?_))
  refine la rfl rfl rfl rfl rfl ?_
  refine L_nil ?_
  refine T_ret ?_
  exact T_fin () (by first | trivial | omega | (simp; done)) (res1 rfl rfl) [] ⟨by decide, rfl⟩ rfl
 ·
  refine T_slot 18 (.bool (decide (500 < n1))) (.bool false) rfl (congrArg _ hc_3) ?_
  refine T_slot 17 (.bool (decide (500 < n1))) (.bool false) rfl (congrArg _ hc_3) ?_
  have hc_3 := of_decide_eq_false hc_3
  refine lm rfl rfl rfl rfl rfl ?_
  refine lo rfl (pr_len_sl Try.underlying25 rfl rfl) rfl rfl ?_
  refine lo rfl (pr_cmp (bo := .gtr) (nc_lt (a := 1500) (b := n2)) rfl rfl rfl rfl) rfl rfl ?_
  refine lo rfl (pr_pick_f rfl rfl rfl) rfl rfl ?_
  refine L_nil ?_
  refine T_cond (decide (1500 < n2)) rfl (fun hc_6 => ?_) (fun hc_6 => ?_)
  ·
   have hc_6 := of_decide_eq_true hc_6
   refine Tsr hF rfl ?_
   refine L_op rfl (op_cn (fun w hw => awake7_f  w (hok_nil w) ) (enters_of Try.func23 kr rfl) rfl rfl rfl rfl rfl (fun t7 q8 => ?_))
   refine la rfl rfl rfl rfl rfl ?_
   refine L_nil ?_
   refine T_ret ?_
   exact T_fin () (by first | trivial | omega | (simp; done)) (res1 rfl rfl) [] ⟨by decide, rfl⟩ rfl
  ·
   have hc_6 := of_decide_eq_false hc_6
   refine T_skip ?_
   refine Tsr hF rfl ?_
   refine lm rfl rfl rfl rfl rfl ?_
   refine L_op rfl (op_cn (fun w hw => own_f aad (71#8) A1 n1 c1 w (hok_cons ((src_rd 2 rfl) w hw) (hok_nil w)) sd sd) (enters_of Try.func17 kr rfl) rfl rfl rfl rfl rfl (fun t9 q10 => ?_))
   obtain ⟨B11, d12⟩ := t9
   have q10 : n1 + 3 ≤ d12 := q10
   refine lm rfl rfl rfl rfl rfl ?_
   refine L_op rfl (op_cn (fun w hw => own_f cs (71#8) A2 n2 c2 w (hok_cons ((src_rd 5 rfl) w hw) (hok_nil w)) sd sd) (enters_of Try.func17 kr rfl) rfl rfl rfl rfl rfl (fun t13 q14 => ?_))
   obtain ⟨B15, d16⟩ := t13
   have q14 : n2 + 3 ≤ d16 := q14
   refine la rfl rfl rfl rfl rfl ?_
   refine la rfl rfl rfl rfl rfl ?_
   refine L_nil ?_
   refine Tsr hF rfl ?_
   refine lq rfl (ld_agg (ds := (key.map b8)) 5 rfl agg_all Try.underlying22 rfl (fwz (n := 32) kr sd) rfl rfl) rfl rfl ?_
   refine lq rfl (ld_agg (ds := (nonce.map b8)) 4 rfl agg_all Try.underlying38 rfl (fwz (n := 12) kr sd) rfl rfl) rfl rfl ?_
   refine lm rfl rfl rfl rfl rfl ?_
   refine lm rfl rfl rfl rfl rfl ?_
   refine L_op rfl (op_cn (fun w hw => open_bad_f key nonce aad cs B11 n1 d12 B15 n2 d16 w (hok_cons ((src_old 3 rfl) w hw) (hok_cons ((src_old 1 rfl) w hw) (hok_nil w))) (by first | assumption | exact sd) (by first | assumption | exact sd) (by first | assumption | exact sd) (by first | assumption | exact sd) sd sd sd hg) (enters_of Try.func27 kr rfl) rfl rfl rfl rfl rfl (fun t17 q18 => ?_))
   refine lm rfl rfl rfl rfl rfl ?_
   refine lo rfl (pr_ext (vs := [(.slice none 0 0), (.int .i64 ((6 : Nat) : Int))]) rfl rfl rfl) rfl rfl ?_
   refine lo rfl (pr_ext (vs := [(.slice none 0 0), (.int .i64 ((6 : Nat) : Int))]) rfl rfl rfl) rfl rfl ?_
   refine la rfl rfl rfl rfl rfl ?_
   refine la rfl rfl rfl rfl rfl ?_
   refine L_nil ?_
   refine Tsr hF rfl ?_
   refine lq rfl (ld_agg (ds := (key.map b8)) 5 rfl agg_all Try.underlying22 rfl (fwz (n := 32) kr sd) rfl rfl) rfl rfl ?_
   refine lq rfl (ld_agg (ds := (nonce.map b8)) 4 rfl agg_all Try.underlying38 rfl (fwz (n := 12) kr sd) rfl rfl) rfl rfl ?_
   refine lm rfl rfl rfl rfl rfl ?_
   refine lm rfl rfl rfl rfl rfl ?_
   refine L_op rfl (op_cn (fun w hw => ropen_bad_f key nonce aad cs A1 n1 c1 A2 n2 c2 w (hok_cons ((src_rd 6 rfl) w hw) (hok_cons ((src_rd 7 rfl) w hw) (hok_nil w))) (by first | assumption | exact sd) (by first | assumption | exact sd) (by first | assumption | exact sd) (by first | assumption | exact sd) sd sd sd hg) (enters_of Try.func28 kr rfl) rfl rfl rfl rfl rfl (fun t19 q20 => ?_))
   refine lm rfl rfl rfl rfl rfl ?_
   refine lo rfl (pr_ext (vs := [(.slice none 0 0), (.int .i64 ((6 : Nat) : Int))]) rfl rfl rfl) rfl rfl ?_
   refine lo rfl (pr_ext (vs := [(.slice none 0 0), (.int .i64 ((6 : Nat) : Int))]) rfl rfl rfl) rfl rfl ?_
   refine la rfl rfl rfl rfl rfl ?_
   refine la rfl rfl rfl rfl rfl ?_
   refine L_nil ?_
   refine T_seq ?_
   refine Tsr hF rfl ?_
   refine L_op rfl (op_cn (fun w hw => awake7_f  w (hok_nil w) ) (enters_of Try.func23 kr rfl) rfl rfl rfl rfl rfl (fun t21 q22 => ?_))
   refine lo rfl (pr_un (v := .bool false) rfl rfl rfl) rfl rfl ?_
   refine lm rfl rfl rfl rfl rfl ?_
   refine lm rfl rfl rfl rfl rfl ?_
   refine lm rfl rfl rfl rfl rfl ?_
   refine L_op rfl (op_cn (fun w hw => bytes_f [] [] none 0 0 none 0 0 w (hok_cons ((src_nil 1) w hw) (hok_cons ((src_nil 1) w hw) (hok_nil w))) ) (enters_of Try.func26 kr rfl) rfl rfl rfl rfl rfl (fun t23 q24 => ?_))
   refine lo rfl (pr_un rfl rfl rfl) rfl rfl ?_
   refine lo rfl (pr_pick_f rfl rfl rfl) rfl rfl ?_
   refine lm rfl rfl rfl rfl rfl ?_
   refine T_slot 52 (.bool (!(decide ([] = [])))) (.bool false) rfl (congrArg _ (by simp)) ?_
   refine lm rfl rfl rfl rfl rfl ?_
   refine lm rfl rfl rfl rfl rfl ?_
   refine lo rfl (pr_cmp (bo := .neq) (nc_ne (a := 6) (b := 6)) rfl rfl rfl rfl) rfl rfl ?_
   refine lo rfl (pr_pick_f rfl rfl rfl) rfl rfl ?_
   refine L_nil ?_
   refine T_cond_f rfl ?_
   refine T_skip ?_
   refine Tsr hF rfl ?_
   refine lm rfl rfl rfl rfl rfl ?_
   refine T_nilrow 5 1 ?_
   refine L_op rfl (op_c1 0 rfl (fun w hw => spoil_f [] none 0 0 w (hw _ (List.mem_of_getElem? (i := 0) rfl)) sd sd) (enters_of Try.func29 kr rfl) rfl rfl rfl rfl rfl (fun t26 q27 => ?_))
   refine L_nil ?_
   refine Tsr hF rfl ?_
   refine lm rfl rfl rfl rfl rfl ?_
   refine lm rfl rfl rfl rfl rfl ?_
   refine L_op rfl (op_cn (fun w hw => kept_f aad (71#8) B11 n1 d12 A1 c1 w (hok_cons ((src_old 3 rfl) w hw) (hok_cons ((src_old 2 rfl) w hw) (hok_cons ((src_rd 6 rfl) w hw) (hok_nil w)))) sd sd sd) (enters_of Try.func22 kr rfl) rfl rfl rfl rfl rfl (fun t28 q29 => ?_))
   refine lm rfl rfl rfl rfl rfl ?_
   refine lm rfl rfl rfl rfl rfl ?_
   refine lm rfl rfl rfl rfl rfl ?_
   refine L_op rfl (op_cn (fun w hw => kept_f cs (71#8) B15 n2 d16 A2 c2 w (hok_cons ((src_old 1 rfl) w hw) (hok_cons ((src_old 0 rfl) w hw) (hok_cons ((src_rd 7 rfl) w hw) (hok_nil w)))) sd sd sd) (enters_of Try.func22 kr rfl) rfl rfl rfl rfl rfl (fun t30 q31 => ?_))
   refine lo rfl (pr_pick_t rfl rfl rfl) rfl rfl ?_
   refine la rfl rfl rfl rfl rfl ?_
   refine L_nil ?_
   refine T_ret ?_
   exact T_fin () (by first | trivial | omega | (simp; done)) (res1 rfl rfl) [] ⟨by decide, rfl⟩ rfl
set_option maxRecDepth 100000 in
set_option maxHeartbeats 4000000 in
theorem opens_short_f (key : List (BitVec 8)) (nonce : List (BitVec 8)) (aad : List (BitVec 8)) (cs : List (BitVec 8)) (A1 : Option Addr) (n1 : Nat) (c1 : Nat) (A2 : Option Addr) (n2 : Nat) (c2 : Nat) (w : World) (hO : HOK [.rd A1 1 n1 c1 (aad.map b8), .rd A2 1 n2 c2 (cs.map b8)] w) (hk : key.length = 32) (hn : nonce.length = 12) (h1 : aad.length = n1) (h2 : cs.length = n2) (h4 : n2 < 16) : Calls Try.prog 10 [(.agg (key.map b8).toArray), (.agg (nonce.map b8).toArray), (.slice A1 n1 c1), (.slice A2 n2 c2)].toArray w (Ret (T := Unit) [] w (fun _ => True) (fun _ => (.bool true)) (fun _ => [])) := by
 have hpl := aplain_len key nonce cs
 have hF : Wid Fence.wide := wid_wide
 refine enter (c := _) Try.func10 rfl [] [(.agg (key.map b8).toArray), (.agg (nonce.map b8).toArray), (.slice A1 n1 c1), (.slice A2 n2 c2)] [.rd A1 1 n1 c1 (aad.map b8), .rd A2 1 n2 c2 (cs.map b8)] (by rw [Try.ntmps10]; rfl) (own_rds hO rfl) ?_
 rw [Try.ntmps10]
 refine T_re [(0, (.agg (key.map b8).toArray)), (1, (.agg (nonce.map b8).toArray)), (2, (.slice A1 n1 c1)), (3, (.slice A2 n2 c2))] (sc rfl (sc rfl (sc rfl (sc rfl sn)))) ?_
 refine T_he [0, 1] [.rd A1 1 n1 c1 (aad.map b8), .rd A2 1 n2 c2 (cs.map b8)] ⟨by decide, rfl⟩ ?_
 refine Tsr hF rfl ?_
 refine L_op rfl (op_box (zs := (key.map b8)) rfl rfl rfl rfl rfl (fun g1 => ?_))
 refine L_op rfl (op_box (zs := (nonce.map b8)) rfl rfl rfl rfl rfl (fun g2 => ?_))
 refine la rfl rfl rfl rfl rfl ?_
 refine L_nil ?_
 refine T_seq ?_
 refine Tsr hF rfl ?_
 refine lm rfl rfl rfl rfl rfl ?_
 refine lo rfl (pr_len_sl Try.underlying25 rfl rfl) rfl rfl ?_
 refine lo rfl (pr_cmp (bo := .gtr) (nc_lt (a := 500) (b := n1)) rfl rfl rfl rfl) rfl rfl ?_
 refine lm rfl rfl rfl rfl rfl ?_
 rcases Bool.eq_false_or_eq_true (decide (500 < n1)) with hc_3 | hc_3
 ·
  refine T_slot 18 (.bool (decide (500 < n1))) (.bool true) rfl (congrArg _ hc_3) ?_
  refine T_slot 17 (.bool (decide (500 < n1))) (.bool true) rfl (congrArg _ hc_3) ?_
  have hc_3 := of_decide_eq_true hc_3
  refine L_skip rfl rfl rfl ?_
  refine L_skip rfl rfl rfl ?_
  refine L_skip rfl rfl rfl ?_
  refine lo rfl (pr_pick_t rfl rfl rfl) rfl rfl ?_
  refine L_nil ?_
  refine T_cond_t rfl ?_
  refine Tsr hF rfl ?_
  refine L_op rfl (op_cn (fun w hw => awake7_f  w (hok_nil w) ) (enters_of Try.func23 kr rfl) rfl rfl rfl rfl rfl (fun t4 q5 => ?_))
  refine la rfl rfl rfl rfl rfl ?_
  refine L_nil ?_
  refine T_ret ?_
  exact T_fin () (by first | trivial | omega | (simp; done)) (res1 rfl rfl) [] ⟨by decide, rfl⟩ rfl
 ·
  refine T_slot 18 (.bool (decide (500 < n1))) (.bool false) rfl (congrArg _ hc_3) ?_
  refine T_slot 17 (.bool (decide (500 < n1))) (.bool false) rfl (congrArg _ hc_3) ?_
  have hc_3 := of_decide_eq_false hc_3
  refine lm rfl rfl rfl rfl rfl ?_
  refine lo rfl (pr_len_sl Try.underlying25 rfl rfl) rfl rfl ?_
  refine lo rfl (pr_cmp (bo := .gtr) (nc_lt (a := 1500) (b := n2)) rfl rfl rfl rfl) rfl rfl ?_
  refine lo rfl (pr_pick_f rfl rfl rfl) rfl rfl ?_
  refine L_nil ?_
  refine T_cond (decide (1500 < n2)) rfl (fun hc_6 => ?_) (fun hc_6 => ?_)
  ·
   have hc_6 := of_decide_eq_true hc_6
   refine Tsr hF rfl ?_
   refine L_op rfl (op_cn (fun w hw => awake7_f  w (hok_nil w) ) (enters_of Try.func23 kr rfl) rfl rfl rfl rfl rfl (fun t7 q8 => ?_))
   refine la rfl rfl rfl rfl rfl ?_
   refine L_nil ?_
   refine T_ret ?_
   exact T_fin () (by first | trivial | omega | (simp; done)) (res1 rfl rfl) [] ⟨by decide, rfl⟩ rfl
  ·
   have hc_6 := of_decide_eq_false hc_6
   refine T_skip ?_
   refine Tsr hF rfl ?_
   refine lm rfl rfl rfl rfl rfl ?_
   refine L_op rfl (op_cn (fun w hw => own_f aad (71#8) A1 n1 c1 w (hok_cons ((src_rd 2 rfl) w hw) (hok_nil w)) sd sd) (enters_of Try.func17 kr rfl) rfl rfl rfl rfl rfl (fun t9 q10 => ?_))
   obtain ⟨B11, d12⟩ := t9
   have q10 : n1 + 3 ≤ d12 := q10
   refine lm rfl rfl rfl rfl rfl ?_
   refine L_op rfl (op_cn (fun w hw => own_f cs (71#8) A2 n2 c2 w (hok_cons ((src_rd 5 rfl) w hw) (hok_nil w)) sd sd) (enters_of Try.func17 kr rfl) rfl rfl rfl rfl rfl (fun t13 q14 => ?_))
   obtain ⟨B15, d16⟩ := t13
   have q14 : n2 + 3 ≤ d16 := q14
   refine la rfl rfl rfl rfl rfl ?_
   refine la rfl rfl rfl rfl rfl ?_
   refine L_nil ?_
   refine Tsr hF rfl ?_
   refine lq rfl (ld_agg (ds := (key.map b8)) 5 rfl agg_all Try.underlying22 rfl (fwz (n := 32) kr sd) rfl rfl) rfl rfl ?_
   refine lq rfl (ld_agg (ds := (nonce.map b8)) 4 rfl agg_all Try.underlying38 rfl (fwz (n := 12) kr sd) rfl rfl) rfl rfl ?_
   refine lm rfl rfl rfl rfl rfl ?_
   refine lm rfl rfl rfl rfl rfl ?_
   refine L_op rfl (op_cn (fun w hw => open_short_f key nonce aad cs B11 n1 d12 B15 n2 d16 w (hok_cons ((src_old 3 rfl) w hw) (hok_cons ((src_old 1 rfl) w hw) (hok_nil w))) (by first | assumption | exact sd) (by first | assumption | exact sd) (by first | assumption | exact sd) (by first | assumption | exact sd) sd sd) (enters_of Try.func27 kr rfl) rfl rfl rfl rfl rfl (fun t17 q18 => ?_))
   refine lm rfl rfl rfl rfl rfl ?_
   refine lo rfl (pr_ext (vs := [(.slice none 0 0), (.int .i64 ((3 : Nat) : Int))]) rfl rfl rfl) rfl rfl ?_
   refine lo rfl (pr_ext (vs := [(.slice none 0 0), (.int .i64 ((3 : Nat) : Int))]) rfl rfl rfl) rfl rfl ?_
   refine la rfl rfl rfl rfl rfl ?_
   refine la rfl rfl rfl rfl rfl ?_
   refine L_nil ?_
   refine Tsr hF rfl ?_
   refine lq rfl (ld_agg (ds := (key.map b8)) 5 rfl agg_all Try.underlying22 rfl (fwz (n := 32) kr sd) rfl rfl) rfl rfl ?_
   refine lq rfl (ld_agg (ds := (nonce.map b8)) 4 rfl agg_all Try.underlying38 rfl (fwz (n := 12) kr sd) rfl rfl) rfl rfl ?_
   refine lm rfl rfl rfl rfl rfl ?_
   refine lm rfl rfl rfl rfl rfl ?_
   refine L_op rfl (op_cn (fun w hw => ropen_short_f key nonce aad cs A1 n1 c1 A2 n2 c2 w (hok_cons ((src_rd 6 rfl) w hw) (hok_cons ((src_rd 7 rfl) w hw) (hok_nil w))) (by first | assumption | exact sd) (by first | assumption | exact sd) (by first | assumption | exact sd) (by first | assumption | exact sd) sd sd) (enters_of Try.func28 kr rfl) rfl rfl rfl rfl rfl (fun t19 q20 => ?_))
   refine lm rfl rfl rfl rfl rfl ?_
   refine lo rfl (pr_ext (vs := [(.slice none 0 0), (.int .i64 ((3 : Nat) : Int))]) rfl rfl rfl) rfl rfl ?_
   refine lo rfl (pr_ext (vs := [(.slice none 0 0), (.int .i64 ((3 : Nat) : Int))]) rfl rfl rfl) rfl rfl ?_
   refine la rfl rfl rfl rfl rfl ?_
   refine la rfl rfl rfl rfl rfl ?_
   refine L_nil ?_
   refine T_seq ?_
   refine Tsr hF rfl ?_
   refine L_op rfl (op_cn (fun w hw => awake7_f  w (hok_nil w) ) (enters_of Try.func23 kr rfl) rfl rfl rfl rfl rfl (fun t21 q22 => ?_))
   refine lo rfl (pr_un (v := .bool false) rfl rfl rfl) rfl rfl ?_
   refine lm rfl rfl rfl rfl rfl ?_
   refine lm rfl rfl rfl rfl rfl ?_
   refine lm rfl rfl rfl rfl rfl ?_
   refine L_op rfl (op_cn (fun w hw => bytes_f [] [] none 0 0 none 0 0 w (hok_cons ((src_nil 1) w hw) (hok_cons ((src_nil 1) w hw) (hok_nil w))) ) (enters_of Try.func26 kr rfl) rfl rfl rfl rfl rfl (fun t23 q24 => ?_))
   refine lo rfl (pr_un rfl rfl rfl) rfl rfl ?_
   refine lo rfl (pr_pick_f rfl rfl rfl) rfl rfl ?_
   refine lm rfl rfl rfl rfl rfl ?_
   refine T_slot 52 (.bool (!(decide ([] = [])))) (.bool false) rfl (congrArg _ (by simp)) ?_
   refine lm rfl rfl rfl rfl rfl ?_
   refine lm rfl rfl rfl rfl rfl ?_
   refine lo rfl (pr_cmp (bo := .neq) (nc_ne (a := 3) (b := 3)) rfl rfl rfl rfl) rfl rfl ?_
   refine lo rfl (pr_pick_f rfl rfl rfl) rfl rfl ?_
   refine L_nil ?_
   refine T_cond_f rfl ?_
   refine T_skip ?_
   refine Tsr hF rfl ?_
   refine lm rfl rfl rfl rfl rfl ?_
   refine T_nilrow 5 1 ?_
   refine L_op rfl (op_c1 0 rfl (fun w hw => spoil_f [] none 0 0 w (hw _ (List.mem_of_getElem? (i := 0) rfl)) sd sd) (enters_of Try.func29 kr rfl) rfl rfl rfl rfl rfl (fun t26 q27 => ?_))
   refine L_nil ?_
   refine Tsr hF rfl ?_
   refine lm rfl rfl rfl rfl rfl ?_
   refine lm rfl rfl rfl rfl rfl ?_
   refine L_op rfl (op_cn (fun w hw => kept_f aad (71#8) B11 n1 d12 A1 c1 w (hok_cons ((src_old 3 rfl) w hw) (hok_cons ((src_old 2 rfl) w hw) (hok_cons ((src_rd 6 rfl) w hw) (hok_nil w)))) sd sd sd) (enters_of Try.func22 kr rfl) rfl rfl rfl rfl rfl (fun t28 q29 => ?_))
   refine lm rfl rfl rfl rfl rfl ?_
   refine lm rfl rfl rfl rfl rfl ?_
   refine lm rfl rfl rfl rfl rfl ?_
   refine L_op rfl (op_cn (fun w hw => kept_f cs (71#8) B15 n2 d16 A2 c2 w (hok_cons ((src_old 1 rfl) w hw) (hok_cons ((src_old 0 rfl) w hw) (hok_cons ((src_rd 7 rfl) w hw) (hok_nil w)))) sd sd sd) (enters_of Try.func22 kr rfl) rfl rfl rfl rfl rfl (fun t30 q31 => ?_))
   refine lo rfl (pr_pick_t rfl rfl rfl) rfl rfl ?_
   refine la rfl rfl rfl rfl rfl ?_
   refine L_nil ?_
   refine T_ret ?_
   exact T_fin () (by first | trivial | omega | (simp; done)) (res1 rfl rfl) [] ⟨by decide, rfl⟩ rfl
theorem aeadOpens_f (key : List (BitVec 8)) (nonce : List (BitVec 8)) (aad : List (BitVec 8)) (cs : List (BitVec 8)) (A1 : Option Addr) (n1 : Nat) (c1 : Nat) (A2 : Option Addr) (n2 : Nat) (c2 : Nat) (w : World) (hO : HOK [.rd A1 1 n1 c1 (aad.map b8), .rd A2 1 n2 c2 (cs.map b8)] w) (hk : key.length = 32) (hn : nonce.length = 12) (h1 : aad.length = n1) (h2 : cs.length = n2) : Calls Try.prog 10 [(.agg (key.map b8).toArray), (.agg (nonce.map b8).toArray), (.slice A1 n1 c1), (.slice A2 n2 c2)].toArray w (Ret (T := Unit) [] w (fun _ => True) (fun _ => (.bool true)) (fun _ => [])) := by
  by_cases h : n2 < 16
  · exact opens_short_f key nonce aad cs A1 n1 c1 A2 n2 c2 w hO hk hn h1 h2 h
  · by_cases hg : agood key nonce aad cs
    · exact opens_ok_f key nonce aad cs A1 n1 c1 A2 n2 c2 w hO hk hn h1 h2 (by omega) hg
    · exact opens_bad_f key nonce aad cs A1 n1 c1 A2 n2 c2 w hO hk hn h1 h2 (by omega) hg

end Go.Proofs.Ytemjinkdfjoicaa
