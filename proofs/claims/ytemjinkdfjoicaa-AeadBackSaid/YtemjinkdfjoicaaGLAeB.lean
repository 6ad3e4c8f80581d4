/- AeadBack, walked by facts. -/
import Derived.Test.YtemjinkdfjoicaaGLAeA
import Derived.Test.YtemjinkdfjoicaaProg
import Derived.Test.YtemjinkdfjoicaaFwU
namespace Go.Proofs.Ytemjinkdfjoicaa
set_option linter.unusedVariables false
set_option linter.unusedSimpArgs false
set_option linter.unnecessarySimpa false
open Go.RowKit Bv Fw

set_option maxRecDepth 100000 in
set_option maxHeartbeats 4000000 in
theorem alike_ok_f (key : List (BitVec 8)) (nonce : List (BitVec 8)) (aad : List (BitVec 8)) (cs : List (BitVec 8)) (A1 : Option Addr) (n1 : Nat) (c1 : Nat) (A2 : Option Addr) (n2 : Nat) (c2 : Nat) (w : World) (hO : HOK [.rd A1 1 n1 c1 (aad.map b8), .rd A2 1 n2 c2 (cs.map b8)] w) (hk : key.length = 32) (hn : nonce.length = 12) (h1 : aad.length = n1) (h2 : cs.length = n2) (h5 : n1 ≤ 65536) (h6 : n2 ≤ 65552) (h4 : 16 ≤ n2) (hg : agood key nonce aad cs) : Calls Try.prog 30 [(.agg (key.map b8).toArray), (.agg (nonce.map b8).toArray), (.slice A1 n1 c1), (.slice A2 n2 c2)].toArray w (Ret (T := Unit) [] w (fun _ => True) (fun _ => (.bool true)) (fun _ => [])) := by
 have hpl := aplain_len key nonce cs
 have hF : Wid Fence.wide := wid_wide
 refine enter (c := _) Try.func30 rfl [] [(.agg (key.map b8).toArray), (.agg (nonce.map b8).toArray), (.slice A1 n1 c1), (.slice A2 n2 c2)] [.rd A1 1 n1 c1 (aad.map b8), .rd A2 1 n2 c2 (cs.map b8)] (by rw [Try.ntmps30]; rfl) (own_rds hO rfl) ?_
 rw [Try.ntmps30]
 refine T_re [(0, (.agg (key.map b8).toArray)), (1, (.agg (nonce.map b8).toArray)), (2, (.slice A1 n1 c1)), (3, (.slice A2 n2 c2))] (sc rfl (sc rfl (sc rfl (sc rfl sn)))) ?_
 refine T_he [0, 1] [.rd A1 1 n1 c1 (aad.map b8), .rd A2 1 n2 c2 (cs.map b8)] ⟨by decide, rfl⟩ ?_
 refine Tsr hF rfl ?_
 refine L_op rfl (op_box (zs := (key.map b8)) rfl rfl rfl rfl rfl (fun g1 => ?_))
 refine L_op rfl (op_box (zs := (nonce.map b8)) rfl rfl rfl rfl rfl (fun g2 => ?_))
 refine la rfl rfl rfl rfl rfl ?_
 refine L_nil ?_
 refine Tsr hF rfl ?_
 refine lq rfl (ld_agg (ds := (key.map b8)) 1 rfl agg_all Try.underlying22 rfl (fwz (n := 32) kr sd) rfl rfl) rfl rfl ?_
 refine lq rfl (ld_agg (ds := (nonce.map b8)) 0 rfl agg_all Try.underlying38 rfl (fwz (n := 12) kr sd) rfl rfl) rfl rfl ?_
 refine lm rfl rfl rfl rfl rfl ?_
 refine lm rfl rfl rfl rfl rfl ?_
 refine L_op rfl (op_cn (fun w hw => open_ok_f key nonce aad cs A1 n1 c1 A2 n2 c2 w (hok_cons ((src_rd 2 rfl) w hw) (hok_cons ((src_rd 3 rfl) w hw) (hok_nil w))) (by first | assumption | exact sd) (by first | assumption | exact sd) (by first | assumption | exact sd) (by first | assumption | exact sd) sd sd sd hg) (enters_of Try.func27 kr rfl) rfl rfl rfl rfl rfl (fun t3 q4 => ?_))
 obtain ⟨B5, d6⟩ := t3
 refine lm rfl rfl rfl rfl rfl ?_
 refine lo rfl (pr_ext (vs := [(.slice B5 (n2 - 16) d6), (.int .i64 ((0 : Nat) : Int))]) rfl rfl rfl) rfl rfl ?_
 refine lo rfl (pr_ext (vs := [(.slice B5 (n2 - 16) d6), (.int .i64 ((0 : Nat) : Int))]) rfl rfl rfl) rfl rfl ?_
 refine la rfl rfl rfl rfl rfl ?_
 refine la rfl rfl rfl rfl rfl ?_
 refine L_nil ?_
 refine Tsr hF rfl ?_
 refine lq rfl (ld_agg (ds := (key.map b8)) 2 rfl agg_all Try.underlying22 rfl (fwz (n := 32) kr sd) rfl rfl) rfl rfl ?_
 refine lq rfl (ld_agg (ds := (nonce.map b8)) 1 rfl agg_all Try.underlying38 rfl (fwz (n := 12) kr sd) rfl rfl) rfl rfl ?_
 refine lm rfl rfl rfl rfl rfl ?_
 refine lm rfl rfl rfl rfl rfl ?_
 refine L_op rfl (op_cn (fun w hw => ropen_ok_f key nonce aad cs A1 n1 c1 A2 n2 c2 w (hok_cons ((src_rd 3 rfl) w hw) (hok_cons ((src_rd 4 rfl) w hw) (hok_nil w))) (by first | assumption | exact sd) (by first | assumption | exact sd) (by first | assumption | exact sd) (by first | assumption | exact sd) sd sd sd hg) (enters_of Try.func28 kr rfl) rfl rfl rfl rfl rfl (fun t7 q8 => ?_))
 obtain ⟨B9, d10⟩ := t7
 refine lm rfl rfl rfl rfl rfl ?_
 refine lo rfl (pr_ext (vs := [(.slice B9 (n2 - 16) d10), (.int .i64 ((0 : Nat) : Int))]) rfl rfl rfl) rfl rfl ?_
 refine lo rfl (pr_ext (vs := [(.slice B9 (n2 - 16) d10), (.int .i64 ((0 : Nat) : Int))]) rfl rfl rfl) rfl rfl ?_
 refine la rfl rfl rfl rfl rfl ?_
 refine la rfl rfl rfl rfl rfl ?_
 refine L_nil ?_
 refine Tsr hF rfl ?_
 refine lm rfl rfl rfl rfl rfl ?_
 refine lm rfl rfl rfl rfl rfl ?_
 refine lo rfl (pr_cmp (bo := .eql) (nc_eq (a := 0) (b := 0)) rfl rfl rfl rfl) rfl rfl ?_
 refine lm rfl rfl rfl rfl rfl ?_
 refine lm rfl rfl rfl rfl rfl ?_
 refine lm rfl rfl rfl rfl rfl ?_
 refine L_op rfl (op_cn (fun w hw => bytes_f (aplain key nonce cs) (aplain key nonce cs) B5 (n2 - 16) d6 B9 (n2 - 16) d10 w (hok_cons ((src_row 1 rfl) w hw) (hok_cons ((src_row 0 rfl) w hw) (hok_nil w))) ) (enters_of Try.func26 kr rfl) rfl rfl rfl rfl rfl (fun t11 q12 => ?_))
 refine lo rfl (pr_pick_t rfl rfl rfl) rfl rfl ?_
 refine la rfl rfl rfl rfl rfl ?_
 refine L_nil ?_
 refine T_ret ?_
 refine T_slot 8 _ (.bool true) rfl (by simp) ?_
 exact T_fin () (by first | trivial | omega | (simp; done)) (res1 rfl rfl) [] ⟨by decide, rfl⟩ rfl
set_option maxRecDepth 100000 in
set_option maxHeartbeats 4000000 in
theorem alike_bad_f (key : List (BitVec 8)) (nonce : List (BitVec 8)) (aad : List (BitVec 8)) (cs : List (BitVec 8)) (A1 : Option Addr) (n1 : Nat) (c1 : Nat) (A2 : Option Addr) (n2 : Nat) (c2 : Nat) (w : World) (hO : HOK [.rd A1 1 n1 c1 (aad.map b8), .rd A2 1 n2 c2 (cs.map b8)] w) (hk : key.length = 32) (hn : nonce.length = 12) (h1 : aad.length = n1) (h2 : cs.length = n2) (h5 : n1 ≤ 65536) (h6 : n2 ≤ 65552) (h4 : 16 ≤ n2) (hg : ¬ agood key nonce aad cs) : Calls Try.prog 30 [(.agg (key.map b8).toArray), (.agg (nonce.map b8).toArray), (.slice A1 n1 c1), (.slice A2 n2 c2)].toArray w (Ret (T := Unit) [] w (fun _ => True) (fun _ => (.bool true)) (fun _ => [])) := by
 have hpl := aplain_len key nonce cs
 have hF : Wid Fence.wide := wid_wide
 refine enter (c := _) Try.func30 rfl [] [(.agg (key.map b8).toArray), (.agg (nonce.map b8).toArray), (.slice A1 n1 c1), (.slice A2 n2 c2)] [.rd A1 1 n1 c1 (aad.map b8), .rd A2 1 n2 c2 (cs.map b8)] (by rw [Try.ntmps30]; rfl) (own_rds hO rfl) ?_
 rw [Try.ntmps30]
 refine T_re [(0, (.agg (key.map b8).toArray)), (1, (.agg (nonce.map b8).toArray)), (2, (.slice A1 n1 c1)), (3, (.slice A2 n2 c2))] (sc rfl (sc rfl (sc rfl (sc rfl sn)))) ?_
 refine T_he [0, 1] [.rd A1 1 n1 c1 (aad.map b8), .rd A2 1 n2 c2 (cs.map b8)] ⟨by decide, rfl⟩ ?_
 refine Tsr hF rfl ?_
 refine L_op rfl (op_box (zs := (key.map b8)) rfl rfl rfl rfl rfl (fun g1 => ?_))
 refine L_op rfl (op_box (zs := (nonce.map b8)) rfl rfl rfl rfl rfl (fun g2 => ?_))
 refine la rfl rfl rfl rfl rfl ?_
 refine L_nil ?_
 refine Tsr hF rfl ?_
 refine lq rfl (ld_agg (ds := (key.map b8)) 1 rfl agg_all Try.underlying22 rfl (fwz (n := 32) kr sd) rfl rfl) rfl rfl ?_
 refine lq rfl (ld_agg (ds := (nonce.map b8)) 0 rfl agg_all Try.underlying38 rfl (fwz (n := 12) kr sd) rfl rfl) rfl rfl ?_
 refine lm rfl rfl rfl rfl rfl ?_
 refine lm rfl rfl rfl rfl rfl ?_
 refine L_op rfl (op_cn (fun w hw => open_bad_f key nonce aad cs A1 n1 c1 A2 n2 c2 w (hok_cons ((src_rd 2 rfl) w hw) (hok_cons ((src_rd 3 rfl) w hw) (hok_nil w))) (by first | assumption | exact sd) (by first | assumption | exact sd) (by first | assumption | exact sd) (by first | assumption | exact sd) sd sd sd hg) (enters_of Try.func27 kr rfl) rfl rfl rfl rfl rfl (fun t3 q4 => ?_))
 refine lm rfl rfl rfl rfl rfl ?_
 refine lo rfl (pr_ext (vs := [(.slice none 0 0), (.int .i64 ((6 : Nat) : Int))]) rfl rfl rfl) rfl rfl ?_
 refine lo rfl (pr_ext (vs := [(.slice none 0 0), (.int .i64 ((6 : Nat) : Int))]) rfl rfl rfl) rfl rfl ?_
 refine la rfl rfl rfl rfl rfl ?_
 refine la rfl rfl rfl rfl rfl ?_
 refine L_nil ?_
 refine Tsr hF rfl ?_
 refine lq rfl (ld_agg (ds := (key.map b8)) 1 rfl agg_all Try.underlying22 rfl (fwz (n := 32) kr sd) rfl rfl) rfl rfl ?_
 refine lq rfl (ld_agg (ds := (nonce.map b8)) 0 rfl agg_all Try.underlying38 rfl (fwz (n := 12) kr sd) rfl rfl) rfl rfl ?_
 refine lm rfl rfl rfl rfl rfl ?_
 refine lm rfl rfl rfl rfl rfl ?_
 refine L_op rfl (op_cn (fun w hw => ropen_bad_f key nonce aad cs A1 n1 c1 A2 n2 c2 w (hok_cons ((src_rd 2 rfl) w hw) (hok_cons ((src_rd 3 rfl) w hw) (hok_nil w))) (by first | assumption | exact sd) (by first | assumption | exact sd) (by first | assumption | exact sd) (by first | assumption | exact sd) sd sd sd hg) (enters_of Try.func28 kr rfl) rfl rfl rfl rfl rfl (fun t5 q6 => ?_))
 refine lm rfl rfl rfl rfl rfl ?_
 refine lo rfl (pr_ext (vs := [(.slice none 0 0), (.int .i64 ((6 : Nat) : Int))]) rfl rfl rfl) rfl rfl ?_
 refine lo rfl (pr_ext (vs := [(.slice none 0 0), (.int .i64 ((6 : Nat) : Int))]) rfl rfl rfl) rfl rfl ?_
 refine la rfl rfl rfl rfl rfl ?_
 refine la rfl rfl rfl rfl rfl ?_
 refine L_nil ?_
 refine Tsr hF rfl ?_
 refine lm rfl rfl rfl rfl rfl ?_
 refine lm rfl rfl rfl rfl rfl ?_
 refine lo rfl (pr_cmp (bo := .eql) (nc_eq (a := 6) (b := 6)) rfl rfl rfl rfl) rfl rfl ?_
 refine lm rfl rfl rfl rfl rfl ?_
 refine lm rfl rfl rfl rfl rfl ?_
 refine lm rfl rfl rfl rfl rfl ?_
 refine L_op rfl (op_cn (fun w hw => bytes_f [] [] none 0 0 none 0 0 w (hok_cons ((src_nil 1) w hw) (hok_cons ((src_nil 1) w hw) (hok_nil w))) ) (enters_of Try.func26 kr rfl) rfl rfl rfl rfl rfl (fun t7 q8 => ?_))
 refine lo rfl (pr_pick_t rfl rfl rfl) rfl rfl ?_
 refine la rfl rfl rfl rfl rfl ?_
 refine L_nil ?_
 refine T_ret ?_
 refine T_slot 8 (.bool (decide ([] = []))) (.bool true) rfl (by simp) ?_
 exact T_fin () (by first | trivial | omega | (simp; done)) (res1 rfl rfl) [] ⟨by decide, rfl⟩ rfl
set_option maxRecDepth 100000 in
set_option maxHeartbeats 4000000 in
theorem alike_short_f (key : List (BitVec 8)) (nonce : List (BitVec 8)) (aad : List (BitVec 8)) (cs : List (BitVec 8)) (A1 : Option Addr) (n1 : Nat) (c1 : Nat) (A2 : Option Addr) (n2 : Nat) (c2 : Nat) (w : World) (hO : HOK [.rd A1 1 n1 c1 (aad.map b8), .rd A2 1 n2 c2 (cs.map b8)] w) (hk : key.length = 32) (hn : nonce.length = 12) (h1 : aad.length = n1) (h2 : cs.length = n2) (h5 : n1 ≤ 65536) (h6 : n2 ≤ 65552) (h4 : n2 < 16) : Calls Try.prog 30 [(.agg (key.map b8).toArray), (.agg (nonce.map b8).toArray), (.slice A1 n1 c1), (.slice A2 n2 c2)].toArray w (Ret (T := Unit) [] w (fun _ => True) (fun _ => (.bool true)) (fun _ => [])) := by
 have hpl := aplain_len key nonce cs
 have hF : Wid Fence.wide := wid_wide
 refine enter (c := _) Try.func30 rfl [] [(.agg (key.map b8).toArray), (.agg (nonce.map b8).toArray), (.slice A1 n1 c1), (.slice A2 n2 c2)] [.rd A1 1 n1 c1 (aad.map b8), .rd A2 1 n2 c2 (cs.map b8)] (by rw [Try.ntmps30]; rfl) (own_rds hO rfl) ?_
 rw [Try.ntmps30]
 refine T_re [(0, (.agg (key.map b8).toArray)), (1, (.agg (nonce.map b8).toArray)), (2, (.slice A1 n1 c1)), (3, (.slice A2 n2 c2))] (sc rfl (sc rfl (sc rfl (sc rfl sn)))) ?_
 refine T_he [0, 1] [.rd A1 1 n1 c1 (aad.map b8), .rd A2 1 n2 c2 (cs.map b8)] ⟨by decide, rfl⟩ ?_
 refine Tsr hF rfl ?_
 refine L_op rfl (op_box (zs := (key.map b8)) rfl rfl rfl rfl rfl (fun g1 => ?_))
 refine L_op rfl (op_box (zs := (nonce.map b8)) rfl rfl rfl rfl rfl (fun g2 => ?_))
 refine la rfl rfl rfl rfl rfl ?_
 refine L_nil ?_
 refine Tsr hF rfl ?_
 refine lq rfl (ld_agg (ds := (key.map b8)) 1 rfl agg_all Try.underlying22 rfl (fwz (n := 32) kr sd) rfl rfl) rfl rfl ?_
 refine lq rfl (ld_agg (ds := (nonce.map b8)) 0 rfl agg_all Try.underlying38 rfl (fwz (n := 12) kr sd) rfl rfl) rfl rfl ?_
 refine lm rfl rfl rfl rfl rfl ?_
 refine lm rfl rfl rfl rfl rfl ?_
 refine L_op rfl (op_cn (fun w hw => open_short_f key nonce aad cs A1 n1 c1 A2 n2 c2 w (hok_cons ((src_rd 2 rfl) w hw) (hok_cons ((src_rd 3 rfl) w hw) (hok_nil w))) (by first | assumption | exact sd) (by first | assumption | exact sd) (by first | assumption | exact sd) (by first | assumption | exact sd) sd sd) (enters_of Try.func27 kr rfl) rfl rfl rfl rfl rfl (fun t3 q4 => ?_))
 refine lm rfl rfl rfl rfl rfl ?_
 refine lo rfl (pr_ext (vs := [(.slice none 0 0), (.int .i64 ((3 : Nat) : Int))]) rfl rfl rfl) rfl rfl ?_
 refine lo rfl (pr_ext (vs := [(.slice none 0 0), (.int .i64 ((3 : Nat) : Int))]) rfl rfl rfl) rfl rfl ?_
 refine la rfl rfl rfl rfl rfl ?_
 refine la rfl rfl rfl rfl rfl ?_
 refine L_nil ?_
 refine Tsr hF rfl ?_
 refine lq rfl (ld_agg (ds := (key.map b8)) 1 rfl agg_all Try.underlying22 rfl (fwz (n := 32) kr sd) rfl rfl) rfl rfl ?_
 refine lq rfl (ld_agg (ds := (nonce.map b8)) 0 rfl agg_all Try.underlying38 rfl (fwz (n := 12) kr sd) rfl rfl) rfl rfl ?_
 refine lm rfl rfl rfl rfl rfl ?_
 refine lm rfl rfl rfl rfl rfl ?_
 refine L_op rfl (op_cn (fun w hw => ropen_short_f key nonce aad cs A1 n1 c1 A2 n2 c2 w (hok_cons ((src_rd 2 rfl) w hw) (hok_cons ((src_rd 3 rfl) w hw) (hok_nil w))) (by first | assumption | exact sd) (by first | assumption | exact sd) (by first | assumption | exact sd) (by first | assumption | exact sd) sd sd) (enters_of Try.func28 kr rfl) rfl rfl rfl rfl rfl (fun t5 q6 => ?_))
 refine lm rfl rfl rfl rfl rfl ?_
 refine lo rfl (pr_ext (vs := [(.slice none 0 0), (.int .i64 ((3 : Nat) : Int))]) rfl rfl rfl) rfl rfl ?_
 refine lo rfl (pr_ext (vs := [(.slice none 0 0), (.int .i64 ((3 : Nat) : Int))]) rfl rfl rfl) rfl rfl ?_
 refine la rfl rfl rfl rfl rfl ?_
 refine la rfl rfl rfl rfl rfl ?_
 refine L_nil ?_
 refine Tsr hF rfl ?_
 refine lm rfl rfl rfl rfl rfl ?_
 refine lm rfl rfl rfl rfl rfl ?_
 refine lo rfl (pr_cmp (bo := .eql) (nc_eq (a := 3) (b := 3)) rfl rfl rfl rfl) rfl rfl ?_
 refine lm rfl rfl rfl rfl rfl ?_
 refine lm rfl rfl rfl rfl rfl ?_
 refine lm rfl rfl rfl rfl rfl ?_
 refine L_op rfl (op_cn (fun w hw => bytes_f [] [] none 0 0 none 0 0 w (hok_cons ((src_nil 1) w hw) (hok_cons ((src_nil 1) w hw) (hok_nil w))) ) (enters_of Try.func26 kr rfl) rfl rfl rfl rfl rfl (fun t7 q8 => ?_))
 refine lo rfl (pr_pick_t rfl rfl rfl) rfl rfl ?_
 refine la rfl rfl rfl rfl rfl ?_
 refine L_nil ?_
 refine T_ret ?_
 refine T_slot 8 (.bool (decide ([] = []))) (.bool true) rfl (by simp) ?_
 exact T_fin () (by first | trivial | omega | (simp; done)) (res1 rfl rfl) [] ⟨by decide, rfl⟩ rfl
theorem alike_f (key : List (BitVec 8)) (nonce : List (BitVec 8)) (aad : List (BitVec 8)) (cs : List (BitVec 8)) (A1 : Option Addr) (n1 : Nat) (c1 : Nat) (A2 : Option Addr) (n2 : Nat) (c2 : Nat) (w : World) (hO : HOK [.rd A1 1 n1 c1 (aad.map b8), .rd A2 1 n2 c2 (cs.map b8)] w) (hk : key.length = 32) (hn : nonce.length = 12) (h1 : aad.length = n1) (h2 : cs.length = n2) (h5 : n1 ≤ 65536) (h6 : n2 ≤ 65552) : Calls Try.prog 30 [(.agg (key.map b8).toArray), (.agg (nonce.map b8).toArray), (.slice A1 n1 c1), (.slice A2 n2 c2)].toArray w (Ret (T := Unit) [] w (fun _ => True) (fun _ => (.bool true)) (fun _ => [])) := by
  by_cases h : n2 < 16
  · exact alike_short_f key nonce aad cs A1 n1 c1 A2 n2 c2 w hO hk hn h1 h2 h5 h6 h
  · by_cases hg : agood key nonce aad cs
    · exact alike_ok_f key nonce aad cs A1 n1 c1 A2 n2 c2 w hO hk hn h1 h2 h5 h6 (by omega) hg
    · exact alike_bad_f key nonce aad cs A1 n1 c1 A2 n2 c2 w hO hk hn h1 h2 h5 h6 (by omega) hg

set_option maxRecDepth 100000 in
set_option maxHeartbeats 4000000 in
theorem aeadBack_f (key : List (BitVec 8)) (nonce : List (BitVec 8)) (aad : List (BitVec 8)) (cs : List (BitVec 8)) (A1 : Option Addr) (n1 : Nat) (c1 : Nat) (A2 : Option Addr) (n2 : Nat) (c2 : Nat) (z : Int) (y : Int) (ob : BitVec 8) (w : World) (hO : HOK [.rd A1 1 n1 c1 (aad.map b8), .rd A2 1 n2 c2 (cs.map b8)] w) (hk : key.length = 32) (hn : nonce.length = 12) (h1 : aad.length = n1) (h2 : cs.length = n2) : Calls Try.prog 11 [(.agg (key.map b8).toArray), (.agg (nonce.map b8).toArray), (.slice A1 n1 c1), (.slice A2 n2 c2), (.int .i64 z), (.int .i64 y), (b8 ob)].toArray w (Ret (T := Unit) [] w (fun _ => True) (fun _ => (.bool true)) (fun _ => [])) := by
 have hsl := aseal_len key nonce aad cs
 have hpl := aplain_len key nonce (aseal key nonce aad cs)
 have hF : Wid Fence.wide := wid_wide
 refine enter (c := _) Try.func11 rfl [] [(.agg (key.map b8).toArray), (.agg (nonce.map b8).toArray), (.slice A1 n1 c1), (.slice A2 n2 c2), (.int .i64 z), (.int .i64 y), (b8 ob)] [.rd A1 1 n1 c1 (aad.map b8), .rd A2 1 n2 c2 (cs.map b8)] (by rw [Try.ntmps11]; rfl) (own_rds hO rfl) ?_
 rw [Try.ntmps11]
 refine T_re [(0, (.agg (key.map b8).toArray)), (1, (.agg (nonce.map b8).toArray)), (2, (.slice A1 n1 c1)), (3, (.slice A2 n2 c2)), (4, (.int .i64 z)), (5, (.int .i64 y)), (6, (b8 ob))] (sc rfl (sc rfl (sc rfl (sc rfl (sc rfl (sc rfl (sc rfl sn))))))) ?_
 refine T_he [0, 1] [.rd A1 1 n1 c1 (aad.map b8), .rd A2 1 n2 c2 (cs.map b8)] ⟨by decide, rfl⟩ ?_
 refine Tsr hF rfl ?_
 refine L_op rfl (op_box (zs := (key.map b8)) rfl rfl rfl rfl rfl (fun g1 => ?_))
 refine L_op rfl (op_box (zs := (nonce.map b8)) rfl rfl rfl rfl rfl (fun g2 => ?_))
 refine la rfl rfl rfl rfl rfl ?_
 refine L_nil ?_
 refine T_seq ?_
 refine Tsr hF rfl ?_
 refine lm rfl rfl rfl rfl rfl ?_
 refine lo rfl (pr_len_sl Try.underlying25 rfl rfl) rfl rfl ?_
 refine lo rfl (pr_cmp (bo := .gtr) (nc_lt (a := 300) (b := n1)) rfl rfl rfl rfl) rfl rfl ?_
 refine lm rfl rfl rfl rfl rfl ?_
 rcases Bool.eq_false_or_eq_true (decide (300 < n1)) with hc_3 | hc_3
 ·
  refine T_slot 27 (.bool (decide (300 < n1))) (.bool true) rfl (congrArg _ hc_3) ?_
  refine T_slot 26 (.bool (decide (300 < n1))) (.bool true) rfl (congrArg _ hc_3) ?_
  have hc_3 := of_decide_eq_true hc_3
  refine L_skip rfl rfl rfl ?_
  refine L_skip rfl rfl rfl ?_
  refine L_skip rfl rfl rfl ?_
  refine lo rfl (pr_pick_t rfl rfl rfl) rfl rfl ?_
  refine L_nil ?_
  refine T_cond_t rfl ?_
  refine Tsr hF rfl ?_
  refine L_op rfl (op_cn (fun w hw => awake7_f  w (hok_nil w) ) (enters_of Try.func23 kr rfl) rfl rfl rfl rfl rfl (fun t4 q5 => ?_))
  refine la rfl rfl rfl rfl rfl ?_
  refine L_nil ?_
  refine T_ret ?_
  exact T_fin () (by first | trivial | omega | (simp; done)) (res1 rfl rfl) [] ⟨by decide, rfl⟩ rfl
 ·
  refine T_slot 27 (.bool (decide (300 < n1))) (.bool false) rfl (congrArg _ hc_3) ?_
  refine T_slot 26 (.bool (decide (300 < n1))) (.bool false) rfl (congrArg _ hc_3) ?_
  have hc_3 := of_decide_eq_false hc_3
  refine lm rfl rfl rfl rfl rfl ?_
  refine lo rfl (pr_len_sl Try.underlying25 rfl rfl) rfl rfl ?_
  refine lo rfl (pr_cmp (bo := .gtr) (nc_lt (a := 800) (b := n2)) rfl rfl rfl rfl) rfl rfl ?_
  refine lo rfl (pr_pick_f rfl rfl rfl) rfl rfl ?_
  refine L_nil ?_
  refine T_cond (decide (800 < n2)) rfl (fun hc_6 => ?_) (fun hc_6 => ?_)
  ·
   have hc_6 := of_decide_eq_true hc_6
   refine Tsr hF rfl ?_
   refine L_op rfl (op_cn (fun w hw => awake7_f  w (hok_nil w) ) (enters_of Try.func23 kr rfl) rfl rfl rfl rfl rfl (fun t7 q8 => ?_))
   refine la rfl rfl rfl rfl rfl ?_
   refine L_nil ?_
   refine T_ret ?_
   exact T_fin () (by first | trivial | omega | (simp; done)) (res1 rfl rfl) [] ⟨by decide, rfl⟩ rfl
  ·
   have hc_6 := of_decide_eq_false hc_6
   refine T_skip ?_
   refine Tsr hF rfl ?_
   refine lq rfl (ld_agg (ds := (key.map b8)) 1 rfl agg_all Try.underlying22 rfl (fwz (n := 32) kr sd) rfl rfl) rfl rfl ?_
   refine lq rfl (ld_agg (ds := (nonce.map b8)) 0 rfl agg_all Try.underlying38 rfl (fwz (n := 12) kr sd) rfl rfl) rfl rfl ?_
   refine lm rfl rfl rfl rfl rfl ?_
   refine lm rfl rfl rfl rfl rfl ?_
   refine L_op rfl (op_cn (fun w hw => seal_f key nonce aad cs A1 n1 c1 A2 n2 c2 w (hok_cons ((src_rd 2 rfl) w hw) (hok_cons ((src_rd 3 rfl) w hw) (hok_nil w))) (by first | assumption | exact sd) (by first | assumption | exact sd) (by first | assumption | exact sd) (by first | assumption | exact sd) sd sd) (enters_of Try.func24 kr rfl) rfl rfl rfl rfl rfl (fun t9 q10 => ?_))
   obtain ⟨B11, d12⟩ := t9
   refine lm rfl rfl rfl rfl rfl ?_
   refine lo rfl (pr_ext (vs := [(.slice B11 (n2 + 16) d12), (.int .i64 ((0 : Nat) : Int))]) rfl rfl rfl) rfl rfl ?_
   refine T_old 0 rfl ?_
   refine T_tord 0 rfl ?_
   refine lo rfl (pr_ext (vs := [(.slice B11 (n2 + 16) d12), (.int .i64 ((0 : Nat) : Int))]) rfl rfl rfl) rfl rfl ?_
   refine la rfl rfl rfl rfl rfl ?_
   refine la rfl rfl rfl rfl rfl ?_
   refine L_nil ?_
   refine Tsr hF rfl ?_
   refine lq rfl (ld_agg (ds := (key.map b8)) 2 rfl agg_all Try.underlying22 rfl (fwz (n := 32) kr sd) rfl rfl) rfl rfl ?_
   refine lq rfl (ld_agg (ds := (nonce.map b8)) 1 rfl agg_all Try.underlying38 rfl (fwz (n := 12) kr sd) rfl rfl) rfl rfl ?_
   refine lm rfl rfl rfl rfl rfl ?_
   refine lm rfl rfl rfl rfl rfl ?_
   refine L_op rfl (op_cn (fun w hw => open_ok_f key nonce aad (aseal key nonce aad cs) A1 n1 c1 B11 (n2 + 16) d12 w (hok_cons ((src_rd 3 rfl) w hw) (hok_cons ((src_rd 0 rfl) w hw) (hok_nil w))) (by first | assumption | exact sd) (by first | assumption | exact sd) (by first | assumption | exact sd) (by first | assumption | exact sd) sd sd sd (agood_seal _ _ _ _)) (enters_of Try.func27 kr rfl) rfl rfl rfl rfl rfl (fun t13 q14 => ?_))
   obtain ⟨B15, d16⟩ := t13
   refine lm rfl rfl rfl rfl rfl ?_
   refine lo rfl (pr_ext (vs := [(.slice B15 ((n2 + 16) - 16) d16), (.int .i64 ((0 : Nat) : Int))]) rfl rfl rfl) rfl rfl ?_
   refine lo rfl (pr_ext (vs := [(.slice B15 ((n2 + 16) - 16) d16), (.int .i64 ((0 : Nat) : Int))]) rfl rfl rfl) rfl rfl ?_
   refine la rfl rfl rfl rfl rfl ?_
   refine la rfl rfl rfl rfl rfl ?_
   refine L_nil ?_
   refine T_seq ?_
   refine Tsr hF rfl ?_
   refine L_op rfl (op_cn (fun w hw => awake7_f  w (hok_nil w) ) (enters_of Try.func23 kr rfl) rfl rfl rfl rfl rfl (fun t17 q18 => ?_))
   refine lo rfl (pr_un (v := .bool false) rfl rfl rfl) rfl rfl ?_
   refine lm rfl rfl rfl rfl rfl ?_
   refine lm rfl rfl rfl rfl rfl ?_
   refine lo rfl (pr_cmp (bo := .neq) (nc_ne (a := 0) (b := 0)) rfl rfl rfl rfl) rfl rfl ?_
   refine lo rfl (pr_pick_f rfl rfl rfl) rfl rfl ?_
   refine lm rfl rfl rfl rfl rfl ?_
   refine lm rfl rfl rfl rfl rfl ?_
   refine lo rfl (pr_cmp (bo := .neq) (nc_ne (a := 0) (b := 0)) rfl rfl rfl rfl) rfl rfl ?_
   refine lo rfl (pr_pick_f rfl rfl rfl) rfl rfl ?_
   refine lm rfl rfl rfl rfl rfl ?_
   refine lm rfl rfl rfl rfl rfl ?_
   refine lm rfl rfl rfl rfl rfl ?_
   refine L_op rfl (op_cn (fun w hw => bytes_f (aplain key nonce (aseal key nonce aad cs)) cs B15 ((n2 + 16) - 16) d16 A2 n2 c2 w (hok_cons ((src_row 0 rfl) w hw) (hok_cons ((src_rd 5 rfl) w hw) (hok_nil w))) ) (enters_of Try.func26 kr rfl) rfl rfl rfl rfl rfl (fun t19 q20 => ?_))
   refine lo rfl (pr_un rfl rfl rfl) rfl rfl ?_
   refine lo rfl (pr_pick_f rfl rfl rfl) rfl rfl ?_
   refine lm rfl rfl rfl rfl rfl ?_
   refine T_slot 65 _ (.bool false) rfl (congrArg _ (by rw [aplain_seal]; simp)) ?_
   refine lm rfl rfl rfl rfl rfl ?_
   refine lo rfl (pr_len_sl Try.underlying25 rfl rfl) rfl rfl ?_
   refine lm rfl rfl rfl rfl rfl ?_
   refine lo rfl (pr_len_sl Try.underlying25 rfl rfl) rfl rfl ?_
   refine lo rfl (pr_add (na_i64 (a := n2) (b := 16) sd) rfl rfl rfl) rfl rfl ?_
   refine lo rfl (pr_cmp (bo := .neq) (nc_ne (a := n2 + 16) (b := n2 + 16)) rfl rfl rfl rfl) rfl rfl ?_
   refine lo rfl (pr_pick_f rfl rfl rfl) rfl rfl ?_
   refine L_nil ?_
   refine T_cond_no (t := (n2 + 16 != n2 + 16)) rfl (by simp) ?_
   refine T_skip ?_
   refine Tsr hF rfl ?_
   refine la rfl rfl rfl rfl rfl ?_
   refine L_nil ?_
   refine Tsr hF rfl ?_
   refine lm rfl rfl rfl rfl rfl ?_
   refine L_op rfl (op_cn (fun w hw => copyBytes_f (aseal key nonce aad cs) B11 (n2 + 16) d12 w (hok_cons ((src_rd 1 rfl) w hw) (hok_nil w)) sd) (enters_of Try.func31 kr rfl) rfl rfl rfl rfl rfl (fun t22 q23 => ?_))
   obtain ⟨B24, d25⟩ := t22
   refine la rfl rfl rfl rfl rfl ?_
   refine L_nil ?_
   refine Tsr hF rfl ?_
   refine lm rfl rfl rfl rfl rfl ?_
   refine lo rfl (pr_cv (zc_u64 z) Try.underlying3 Try.underlying33 rfl rfl) rfl rfl ?_
   refine lm rfl rfl rfl rfl rfl ?_
   refine lo rfl (pr_len_sl Try.underlying25 rfl rfl) rfl rfl ?_
   refine lo rfl (pr_mul (nm_i64 (a := 8) (b := n2 + 16) sd) rfl rfl rfl) rfl rfl ?_
   refine lo rfl (pr_cv (ni_u64 (a := 8 * (n2 + 16)) sd) Try.underlying3 Try.underlying33 rfl rfl) rfl rfl ?_
   refine lo rfl (pr_rem (a := (BitVec.ofInt 64 z).toNat) (b := 8 * (n2 + 16)) sd rfl rfl rfl) rfl rfl ?_
   obtain ⟨kk, hkk⟩ : ∃ x : Nat, ((BitVec.ofInt 64 z).toNat) % (8 * (n2 + 16)) = x := ⟨_, rfl⟩
   have hkl : kk < 8 * (n2 + 16) := by rw [← hkk]; exact Nat.mod_lt _ (by omega)
   refine T_slot 81 _ (.int .u64 ((kk : Nat) : Int)) rfl (by rw [hkk]) ?_
   refine lo rfl (pr_cv (ni_i64 (a := kk) sd) Try.underlying33 Try.underlying3 rfl rfl) rfl rfl ?_
   refine la rfl rfl rfl rfl rfl ?_
   refine L_nil ?_
   refine Tsr hF rfl ?_
   refine lm rfl rfl rfl rfl rfl ?_
   refine lm rfl rfl rfl rfl rfl ?_
   refine lo rfl (pr_quo (a := kk) (b := 8) sd sd rfl rfl rfl) rfl rfl ?_
   refine lm rfl rfl rfl rfl rfl ?_
   refine lm rfl rfl rfl rfl rfl ?_
   refine lo rfl (pr_quo (a := kk) (b := 8) sd sd rfl rfl rfl) rfl rfl ?_
   refine lo rfl (pr_ixs1 (j := kk / 8) (src_none (src_row 0 rfl)) sd Try.underlying25 kr rfl rfl rfl) rfl rfl ?_
   refine lq rfl (ld_src (m := kk / 8) (src_row 0 rfl) (get8 sd) Try.underlying5 rfl rfl rfl) rfl rfl ?_
   refine lm rfl rfl rfl rfl rfl ?_
   refine lo rfl (pr_rem (a := kk) (b := 8) sd rfl rfl rfl) rfl rfl ?_
   refine lo rfl (pr_cv (ni_u64 (a := kk % 8) sd) Try.underlying3 Try.underlying33 rfl rfl) rfl rfl ?_
   refine lo rfl (pr_shift (sh_shl8 (1#8) _ (kk % 8)) rfl rfl rfl rfl) rfl rfl ?_
   refine lo rfl (pr_xor (ib_xor8 _ _) rfl rfl rfl) rfl rfl ?_
   refine lo rfl (pr_ixs1 (j := kk / 8) (src_none (src_row 0 rfl)) sd Try.underlying25 kr rfl rfl rfl) rfl rfl ?_
   refine L_op rfl (op_store_row (m := kk / 8) (v := ((ath (aseal key nonce aad cs) (kk / 8)) ^^^ (1#8 <<< (kk % 8)))) 0 rfl sd kr rfl rfl rfl rfl ?_)
   refine L_nil ?_
   refine T_seq ?_
   refine T_regD [.row (.slice B24 (n2 + 16) d25) 5 1 (n2 + 16) ((List.set (aseal key nonce aad cs) (kk / 8) ((ath (aseal key nonce aad cs) (kk / 8)) ^^^ (1#8 <<< (kk % 8)))).map b8), .row (.slice B15 ((n2 + 16) - 16) d16) 5 1 ((n2 + 16) - 16) ((aplain key nonce (aseal key nonce aad cs)).map b8), .rd B11 1 (n2 + 16) d12 ((aseal key nonce aad cs).map b8), .blk g2 38 (nonce.map b8), .blk g1 22 (key.map b8), .rd A1 1 n1 c1 (aad.map b8), .rd A2 1 n2 c2 (cs.map b8)] 6 6 #[false, false, false, false, false, false] hF kr kr ?_
   refine D_take (i := 0) [0, 1, 2, 3, 4, 5, 6] rfl kr rfl (ld_agg (ds := (key.map b8)) 4 rfl agg_all Try.underlying22 rfl (fwz (n := 32) kr sd) rfl rfl) rfl rfl rfl ?_
   refine D_take (i := 1) [0, 1, 2, 3, 4, 5, 6] rfl kr rfl (ld_agg (ds := (nonce.map b8)) 3 rfl agg_all Try.underlying38 rfl (fwz (n := 12) kr sd) rfl rfl) rfl rfl rfl ?_
   refine D_join (T := Nat × Nat) (fun _ => True) (fun ⟨g26, g27⟩ => [(2, (.slice A1 n1 c1)), (5, (.int .i64 y)), (6, (b8 ob)), (7, (.pointer (some ⟨g1, 0, none⟩))), (8, (.pointer (some ⟨g2, 0, none⟩))), (15, (.slice B11 (n2 + 16) d12)), (19, (.func (.func 30) #[] [].toArray)), (20, (.slice B24 (n2 + 16) d25)), (21, (.int .i64 ((kk : Nat) : Int))), (22, (.pointer (some ⟨g26, 0, none⟩))), (23, (.pointer (some ⟨g27, 0, none⟩)))]) (fun ⟨g26, g27⟩ => [.blk g27 38 (nonce.map b8), .blk g26 22 (key.map b8), .row (.slice B24 (n2 + 16) d25) 5 1 (n2 + 16) ((List.set (aseal key nonce aad cs) (kk / 8) ((ath (aseal key nonce aad cs) (kk / 8)) ^^^ (1#8 <<< (kk % 8)))).map b8), .row (.slice B15 ((n2 + 16) - 16) d16) 5 1 ((n2 + 16) - 16) ((aplain key nonce (aseal key nonce aad cs)).map b8), .rd B11 1 (n2 + 16) d12 ((aseal key nonce aad cs).map b8), .blk g2 38 (nonce.map b8), .blk g1 22 (key.map b8), .rd A1 1 n1 c1 (aad.map b8), .rd A2 1 n2 c2 (cs.map b8)]) ?_ ?_
   ·
    refine D_all [2, 3] kr (by simp) ⟨⟨_, rfl, rfl, ?_⟩, ⟨_, rfl, rfl, ?_⟩, trivial⟩
    ·
     refine id (op_alloc (z := .agg ((List.replicate 32 0#8).map b8).toArray) (zs := ((List.replicate 32 0#8).map b8)) kr rfl rfl rfl rfl (fun g28 => ?_))
     refine D_on [1, 2, 3, 4, 5, 6, 7] rfl ?_
     refine D_one 3 _ rfl kr rfl (op_alloc (z := .agg ((List.replicate 12 0#8).map b8).toArray) (zs := ((List.replicate 12 0#8).map b8)) kr rfl rfl rfl rfl (fun g29 => ?_))
     refine D_on [2, 3, 4, 5, 6, 7, 8] rfl ?_
     refine D_one 4 _ rfl kr rfl (op_sto (n := 32) (vs := (key.map b8)) 1 rfl rfl kr (all8_one _) kr sd rfl rfl rfl rfl ?_)
     refine D_on [2, 3, 4, 5, 6, 7, 8] rfl ?_
     refine D_one 5 _ rfl kr rfl (op_sto (n := 12) (vs := (nonce.map b8)) 1 rfl rfl kr (all8_one _) kr sd rfl rfl rfl rfl ?_)
     refine D_on [2, 3, 4, 5, 6, 7, 8] rfl ?_
     refine D_done kr ?_
     exact T_meet (g28, g29) trivial (sc rfl (sc rfl (sc rfl (sc rfl (sc rfl (sc rfl (sc rfl (sc rfl (sc rfl (sc rfl (sc rfl sn))))))))))) [0, 1, 2, 3, 4, 5, 6, 7, 8] ⟨by decide, rfl⟩
    ·
     refine id (op_alloc (z := .agg ((List.replicate 12 0#8).map b8).toArray) (zs := ((List.replicate 12 0#8).map b8)) kr rfl rfl rfl rfl (fun g30 => ?_))
     refine D_on [1, 2, 3, 4, 5, 6, 7] rfl ?_
     refine D_one 2 _ rfl kr rfl (op_alloc (z := .agg ((List.replicate 32 0#8).map b8).toArray) (zs := ((List.replicate 32 0#8).map b8)) kr rfl rfl rfl rfl (fun g31 => ?_))
     refine D_on [2, 3, 4, 5, 6, 7, 8] rfl ?_
     refine D_one 4 _ rfl kr rfl (op_sto (n := 32) (vs := (key.map b8)) 0 rfl rfl kr (all8_one _) kr sd rfl rfl rfl rfl ?_)
     refine D_on [2, 3, 4, 5, 6, 7, 8] rfl ?_
     refine D_one 5 _ rfl kr rfl (op_sto (n := 12) (vs := (nonce.map b8)) 1 rfl rfl kr (all8_one _) kr sd rfl rfl rfl rfl ?_)
     refine D_on [2, 3, 4, 5, 6, 7, 8] rfl ?_
     refine D_done kr ?_
     exact T_meet (g31, g30) trivial (sc rfl (sc rfl (sc rfl (sc rfl (sc rfl (sc rfl (sc rfl (sc rfl (sc rfl (sc rfl (sc rfl sn))))))))))) [0, 1, 2, 3, 4, 5, 6, 7, 8] ⟨by decide, rfl⟩
   ·
    rintro ⟨g26, g27⟩ -
    refine T_re [(2, (.slice A1 n1 c1)), (5, (.int .i64 y)), (6, (b8 ob)), (7, (.pointer (some ⟨g1, 0, none⟩))), (8, (.pointer (some ⟨g2, 0, none⟩))), (15, (.slice B11 (n2 + 16) d12)), (19, (.func (.func 30) #[] [].toArray)), (20, (.slice B24 (n2 + 16) d25)), (21, (.int .i64 ((kk : Nat) : Int))), (22, (.pointer (some ⟨g26, 0, none⟩))), (23, (.pointer (some ⟨g27, 0, none⟩)))] (sc rfl (sc rfl (sc rfl (sc rfl (sc rfl (sc rfl (sc rfl (sc rfl (sc rfl (sc rfl (sc rfl sn))))))))))) ?_
    refine T_he [0, 1, 2, 3, 4, 5, 6, 7, 8] [.blk g27 38 (nonce.map b8), .blk g26 22 (key.map b8), .row (.slice B24 (n2 + 16) d25) 5 1 (n2 + 16) ((List.set (aseal key nonce aad cs) (kk / 8) ((ath (aseal key nonce aad cs) (kk / 8)) ^^^ (1#8 <<< (kk % 8)))).map b8), .row (.slice B15 ((n2 + 16) - 16) d16) 5 1 ((n2 + 16) - 16) ((aplain key nonce (aseal key nonce aad cs)).map b8), .rd B11 1 (n2 + 16) d12 ((aseal key nonce aad cs).map b8), .blk g2 38 (nonce.map b8), .blk g1 22 (key.map b8), .rd A1 1 n1 c1 (aad.map b8), .rd A2 1 n2 c2 (cs.map b8)] ⟨by decide, rfl⟩ ?_
    refine Tsr hF rfl ?_
    refine lm rfl rfl rfl rfl rfl ?_
    refine lo rfl (pr_rem (a := kk) (b := 32) sd rfl rfl rfl) rfl rfl ?_
    refine lm rfl rfl rfl rfl rfl ?_
    refine lo rfl (pr_rem (a := kk) (b := 32) sd rfl rfl rfl) rfl rfl ?_
    refine lo rfl (pr_ixa (j := kk % 32) (m' := kk % 32) sd (by omega) Try.underlying22 (z := 1) kr rfl rfl rfl) rfl rfl ?_
    refine lq rfl (ld_blk 1 rfl (get8 sd) Try.underlying5 rfl rfl rfl) rfl rfl ?_
    refine lm rfl rfl rfl rfl rfl ?_
    refine lo rfl (pr_xor (ib_xor8 _ _) rfl rfl rfl) rfl rfl ?_
    refine lo rfl (pr_ixa (j := kk % 32) (m' := kk % 32) sd (by omega) Try.underlying22 (z := 1) kr rfl rfl rfl) rfl rfl ?_
    refine L_op rfl (op_store (vs := [(b8 ((ath key (kk % 32)) ^^^ ob))]) (cs' := ((List.set key (kk % 32) ((ath key (kk % 32)) ^^^ ob)).map b8)) 1 rfl rfl kr (one_one rfl) (stl sd) (splice_map (f := b8) sd) rfl rfl rfl rfl ?_)
    refine L_nil ?_
    refine Tsr hF rfl ?_
    refine lm rfl rfl rfl rfl rfl ?_
    refine lo rfl (pr_rem (a := kk) (b := 12) sd rfl rfl rfl) rfl rfl ?_
    refine lm rfl rfl rfl rfl rfl ?_
    refine lo rfl (pr_rem (a := kk) (b := 12) sd rfl rfl rfl) rfl rfl ?_
    refine lo rfl (pr_ixa (j := kk % 12) (m' := kk % 12) sd (by omega) Try.underlying38 (z := 1) kr rfl rfl rfl) rfl rfl ?_
    refine lq rfl (ld_blk 1 rfl (get8 sd) Try.underlying5 rfl rfl rfl) rfl rfl ?_
    refine lm rfl rfl rfl rfl rfl ?_
    refine lo rfl (pr_xor (ib_xor8 _ _) rfl rfl rfl) rfl rfl ?_
    refine lo rfl (pr_ixa (j := kk % 12) (m' := kk % 12) sd (by omega) Try.underlying38 (z := 1) kr rfl rfl rfl) rfl rfl ?_
    refine L_op rfl (op_store (vs := [(b8 ((ath nonce (kk % 12)) ^^^ ob))]) (cs' := ((List.set nonce (kk % 12) ((ath nonce (kk % 12)) ^^^ ob)).map b8)) 1 rfl rfl kr (one_one rfl) (stl sd) (splice_map (f := b8) sd) rfl rfl rfl rfl ?_)
    refine L_nil ?_
    refine T_seq ?_
    refine T_regD [.blk g27 38 ((List.set nonce (kk % 12) ((ath nonce (kk % 12)) ^^^ ob)).map b8), .blk g26 22 ((List.set key (kk % 32) ((ath key (kk % 32)) ^^^ ob)).map b8), .row (.slice B24 (n2 + 16) d25) 5 1 (n2 + 16) ((List.set (aseal key nonce aad cs) (kk / 8) ((ath (aseal key nonce aad cs) (kk / 8)) ^^^ (1#8 <<< (kk % 8)))).map b8), .row (.slice B15 ((n2 + 16) - 16) d16) 5 1 ((n2 + 16) - 16) ((aplain key nonce (aseal key nonce aad cs)).map b8), .rd B11 1 (n2 + 16) d12 ((aseal key nonce aad cs).map b8), .blk g2 38 (nonce.map b8), .blk g1 22 (key.map b8), .rd A1 1 n1 c1 (aad.map b8), .rd A2 1 n2 c2 (cs.map b8)] 51 51 #[false, false, false, false, false, false, false, false, false, false, false, false, false, false, false, false, false, false, false, false, false, false, false, false, false, false, false, false, false, false, false, false, false, false, false, false, false, false, false, false, false, false, false, false, false, false, false, false, false, false, false] hF kr kr ?_
    refine D_pure (i := 0) [0, 1, 2, 3, 4, 5, 6, 7, 8] rfl kr rfl (pr_move rfl rfl) (.inr rfl) rfl rfl ?_
    refine D_pure (i := 3) [0, 1, 2, 3, 4, 5, 6, 7, 8] rfl kr rfl (pr_move rfl rfl) (.inr rfl) rfl rfl ?_
    refine D_pure (i := 4) [0, 1, 2, 3, 4, 5, 6, 7, 8] rfl kr rfl (pr_move rfl rfl) (.inr rfl) rfl rfl ?_
    refine D_take (i := 1) [0, 1, 2, 3, 4, 5, 6, 7, 8] rfl kr rfl (ld_agg (ds := (key.map b8)) 6 rfl agg_all Try.underlying22 rfl (fwz (n := 32) kr sd) rfl rfl) rfl rfl rfl ?_
    refine D_take (i := 2) [0, 1, 2, 3, 4, 5, 6, 7, 8] rfl kr rfl (ld_agg (ds := (nonce.map b8)) 5 rfl agg_all Try.underlying38 rfl (fwz (n := 12) kr sd) rfl rfl) rfl rfl rfl ?_
    refine D_one 5 _ rfl kr rfl (op_cn (fun w hw => alike_f key nonce aad (List.set (aseal key nonce aad cs) (kk / 8) ((ath (aseal key nonce aad cs) (kk / 8)) ^^^ (1#8 <<< (kk % 8)))) A1 n1 c1 B24 (n2 + 16) d25 w (hok_cons ((src_rd 7 rfl) w hw) (hok_cons ((src_row 2 rfl) w hw) (hok_nil w))) (by first | assumption | exact sd) (by first | assumption | exact sd) (by first | assumption | exact sd) (by first | assumption | exact sd) sd sd) (enters_of Try.func30 kr rfl) rfl rfl rfl rfl rfl (fun t32 q33 => ?_))
    refine D_on [0, 1, 2, 3, 4, 5, 6, 7, 8] rfl ?_
    refine D_pure (i := 6) [0, 1, 2, 3, 4, 5, 6, 7, 8] rfl kr rfl (pr_move rfl rfl) (.inr rfl) rfl rfl ?_
    refine D_pure (i := 7) [0, 1, 2, 3, 4, 5, 6, 7, 8] rfl kr rfl (pr_move rfl rfl) (.inr rfl) rfl rfl ?_
    refine D_pure (i := 10) [0, 1, 2, 3, 4, 5, 6, 7, 8] rfl kr rfl (pr_move rfl rfl) (.inr rfl) rfl rfl ?_
    refine D_pure (i := 11) [0, 1, 2, 3, 4, 5, 6, 7, 8] rfl kr rfl (pr_move rfl rfl) (.inr rfl) rfl rfl ?_
    refine D_pure (i := 12) [0, 1, 2, 3, 4, 5, 6, 7, 8] rfl kr rfl (pr_move rfl rfl) (.inr rfl) rfl rfl ?_
    refine D_pure (i := 13) [0, 1, 2, 3, 4, 5, 6, 7, 8] rfl kr rfl (pr_cv (zc_u64 y) Try.underlying3 Try.underlying33 rfl rfl) (.inr rfl) rfl rfl ?_
    refine D_pure (i := 14) [0, 1, 2, 3, 4, 5, 6, 7, 8] rfl kr rfl (pr_move rfl rfl) (.inr rfl) rfl rfl ?_
    refine D_pure (i := 15) [0, 1, 2, 3, 4, 5, 6, 7, 8] rfl kr rfl (pr_len_sl Try.underlying25 rfl rfl) (.inr rfl) rfl rfl ?_
    refine D_pure (i := 16) [0, 1, 2, 3, 4, 5, 6, 7, 8] rfl kr rfl (pr_cv (ni_u64 (a := n2 + 16) sd) Try.underlying3 Try.underlying33 rfl rfl) (.inr rfl) rfl rfl ?_
    refine D_pure (i := 17) [0, 1, 2, 3, 4, 5, 6, 7, 8] rfl kr rfl (pr_rem (a := (BitVec.ofInt 64 y).toNat) (b := n2 + 16) sd rfl rfl rfl) (.inr rfl) rfl rfl ?_
    obtain ⟨cc, hcc⟩ : ∃ x : Nat, ((BitVec.ofInt 64 y).toNat) % (n2 + 16) = x := ⟨_, rfl⟩
    have hcl : cc < n2 + 16 := by rw [← hcc]; exact Nat.mod_lt _ (by omega)
    refine T_slot 134 _ (.int .u64 ((cc : Nat) : Int)) rfl (by rw [hcc]) ?_
    refine D_pure (i := 18) [0, 1, 2, 3, 4, 5, 6, 7, 8] rfl kr rfl (pr_cv (ni_i64 (a := cc) sd) Try.underlying33 Try.underlying3 rfl rfl) (.inr rfl) rfl rfl ?_
    refine D_take (i := 8) [0, 1, 2, 3, 4, 5, 6, 7, 8] rfl kr rfl (ld_agg (ds := (key.map b8)) 6 rfl agg_all Try.underlying22 rfl (fwz (n := 32) kr sd) rfl rfl) rfl rfl rfl ?_
    refine D_take (i := 9) [0, 1, 2, 3, 4, 5, 6, 7, 8] rfl kr rfl (ld_agg (ds := (nonce.map b8)) 5 rfl agg_all Try.underlying38 rfl (fwz (n := 12) kr sd) rfl rfl) rfl rfl rfl ?_
    refine D_one 19 _ rfl kr rfl (op_slice_rd (l := 0) (u := cc) 4 rfl sd sd Try.underlying25 kr rfl rfl rfl ⟨_, rfl⟩ rfl rfl (fun B34 => ?_))
    refine T_as 0 _ (.rd B34 1 cc d12 ((List.take cc (aseal key nonce aad cs)).map b8)) rfl (by congr 1; simp [List.map_take, List.map_drop] <;> omega) ?_
    refine T_slot 136 _ (.slice B34 cc d12) rfl (by congr 1) ?_
    refine D_on [1, 2, 3, 4, 5, 6, 7, 8, 9] rfl ?_
    refine D_one 20 _ rfl kr rfl (op_cn (fun w hw => alike_f key nonce aad (List.take cc (aseal key nonce aad cs)) A1 n1 c1 B34 cc d12 w (hok_cons ((src_rd 8 rfl) w hw) (hok_cons ((src_rd 0 rfl) w hw) (hok_nil w))) (by first | assumption | exact sd) (by first | assumption | exact sd) (by first | assumption | exact sd) (by first | assumption | exact sd) sd sd) (enters_of Try.func30 kr rfl) rfl rfl rfl rfl rfl (fun t35 q36 => ?_))
    refine D_on [1, 2, 3, 4, 5, 6, 7, 8, 9] rfl ?_
    refine D_pure (i := 21) [1, 2, 3, 4, 5, 6, 7, 8, 9] rfl kr rfl (pr_pick_t rfl rfl rfl) (.inr rfl) rfl rfl ?_
    refine D_pure (i := 22) [1, 2, 3, 4, 5, 6, 7, 8, 9] rfl kr rfl (pr_move rfl rfl) (.inr rfl) rfl rfl ?_
    refine D_pure (i := 23) [1, 2, 3, 4, 5, 6, 7, 8, 9] rfl kr rfl (pr_move rfl rfl) (.inr rfl) rfl rfl ?_
    refine D_pure (i := 26) [1, 2, 3, 4, 5, 6, 7, 8, 9] rfl kr rfl (pr_move rfl rfl) (.inr rfl) rfl rfl ?_
    refine D_pure (i := 28) [1, 2, 3, 4, 5, 6, 7, 8, 9] rfl kr rfl (pr_move rfl rfl) (.inr rfl) rfl rfl ?_
    refine D_pure (i := 31) [1, 2, 3, 4, 5, 6, 7, 8, 9] rfl kr rfl (pr_move rfl rfl) (.inr rfl) rfl rfl ?_
    refine D_take (i := 24) [1, 2, 3, 4, 5, 6, 7, 8, 9] rfl kr rfl (ld_agg (ds := (key.map b8)) 6 rfl agg_all Try.underlying22 rfl (fwz (n := 32) kr sd) rfl rfl) rfl rfl rfl ?_
    refine D_take (i := 25) [1, 2, 3, 4, 5, 6, 7, 8, 9] rfl kr rfl (ld_agg (ds := (nonce.map b8)) 5 rfl agg_all Try.underlying38 rfl (fwz (n := 12) kr sd) rfl rfl) rfl rfl rfl ?_
    refine D_join (T := Unit) (fun _ => True) (fun _ => [(14, (.bool true))]) (fun _ => [.rd B34 1 cc d12 ((List.take cc (aseal key nonce aad cs)).map b8), .blk g27 38 ((List.set nonce (kk % 12) ((ath nonce (kk % 12)) ^^^ ob)).map b8), .blk g26 22 ((List.set key (kk % 32) ((ath key (kk % 32)) ^^^ ob)).map b8), .row (.slice B24 (n2 + 16) d25) 5 1 (n2 + 16) ((List.set (aseal key nonce aad cs) (kk / 8) ((ath (aseal key nonce aad cs) (kk / 8)) ^^^ (1#8 <<< (kk % 8)))).map b8), .row (.slice B15 ((n2 + 16) - 16) d16) 5 1 ((n2 + 16) - 16) ((aplain key nonce (aseal key nonce aad cs)).map b8), .rd B11 1 (n2 + 16) d12 ((aseal key nonce aad cs).map b8), .blk g2 38 (nonce.map b8), .blk g1 22 (key.map b8), .rd A1 1 n1 c1 (aad.map b8), .rd A2 1 n2 c2 (cs.map b8)]) ?_ ?_
    ·
     refine D_all [27, 29] kr (by simp) ⟨⟨_, rfl, rfl, ?_⟩, ⟨_, rfl, rfl, ?_⟩, trivial⟩
     ·
      refine id (op_cn (fun w hw => copyBytes_f aad A1 n1 c1 w (hok_cons ((src_rd 8 rfl) w hw) (hok_nil w)) sd) (enters_of Try.func31 kr rfl) rfl rfl rfl rfl rfl (fun t50 q51 => ?_))
      obtain ⟨B52, d53⟩ := t50
      refine D_on [2, 3, 4, 5, 6, 7, 8, 9, 10] rfl ?_
      refine D_one 29 _ rfl kr rfl (op_bslice (e := 5) (zs := [(b8 ob)]) (qs := [(0, (b8 ob))]) (fun _ => by kernel_rfl) rfl rfl rfl rfl (fun g54 => ?_))
      refine D_on [3, 4, 5, 6, 7, 8, 9, 10, 11] rfl ?_
      refine D_one 30 _ rfl kr rfl (op_append (z := (b8 (0#8))) (size := 1) (bytes := 1) 1 rfl Try.underlying25 kr kr (by decide) (src_full (z := 1) 0 rfl rfl sd sd) (by simp [Value.oneCell']) sd sd rfl rfl rfl rfl rfl (fun A55 C56 => ?_))
      refine T_as 0 _ (.row (.slice A55 (n1 + 1) C56) 5 1 (n1 + 1) ((aad ++ [ob]).map b8)) rfl (by first | rfl | (congr 1; simp; done) | (simp only [List.map_append]; rfl) | (rw [List.map_append]; rfl)) ?_
      refine D_on [3, 4, 5, 6, 7, 8, 9, 10, 11] rfl ?_
      refine D_one 32 _ rfl kr rfl (op_cn (fun w hw => alike_f key nonce (aad ++ [ob]) (aseal key nonce aad cs) A55 (n1 + 1) C56 B11 (n2 + 16) d12 w (hok_cons ((src_row 0 rfl) w hw) (hok_cons ((src_rd 7 rfl) w hw) (hok_nil w))) (by first | assumption | exact sd) (by first | assumption | exact sd) (by first | assumption | exact sd) (by first | assumption | exact sd) sd sd) (enters_of Try.func30 kr rfl) rfl rfl rfl rfl rfl (fun t57 q58 => ?_))
      refine D_on [3, 4, 5, 6, 7, 8, 9, 10, 11] rfl ?_
      refine D_pure (i := 33) [3, 4, 5, 6, 7, 8, 9, 10, 11] rfl kr rfl (pr_pick_t rfl rfl rfl) (.inr rfl) rfl rfl ?_
      refine D_pure (i := 34) [3, 4, 5, 6, 7, 8, 9, 10, 11] rfl kr rfl (pr_move rfl rfl) (.inr rfl) rfl rfl ?_
      refine D_pure (i := 35) [3, 4, 5, 6, 7, 8, 9, 10, 11] rfl kr rfl (pr_move rfl rfl) (.inr rfl) rfl rfl ?_
      refine D_pure (i := 38) [3, 4, 5, 6, 7, 8, 9, 10, 11] rfl kr rfl (pr_move rfl rfl) (.inr rfl) rfl rfl ?_
      refine D_pure (i := 39) [3, 4, 5, 6, 7, 8, 9, 10, 11] rfl kr rfl (pr_move rfl rfl) (.inr rfl) rfl rfl ?_
      refine D_take (i := 36) [3, 4, 5, 6, 7, 8, 9, 10, 11] rfl kr rfl (ld_agg (ds := ((List.set key (kk % 32) ((ath key (kk % 32)) ^^^ ob)).map b8)) 1 rfl agg_all Try.underlying22 rfl (fwz (n := 32) kr sd) rfl rfl) rfl rfl rfl ?_
      refine D_take (i := 37) [3, 4, 5, 6, 7, 8, 9, 10, 11] rfl kr rfl (ld_agg (ds := (nonce.map b8)) 5 rfl agg_all Try.underlying38 rfl (fwz (n := 12) kr sd) rfl rfl) rfl rfl rfl ?_
      refine D_one 40 _ rfl kr rfl (op_cn (fun w hw => alike_f (List.set key (kk % 32) ((ath key (kk % 32)) ^^^ ob)) nonce aad (aseal key nonce aad cs) A1 n1 c1 B11 (n2 + 16) d12 w (hok_cons ((src_rd 10 rfl) w hw) (hok_cons ((src_rd 7 rfl) w hw) (hok_nil w))) (by first | assumption | exact sd) (by first | assumption | exact sd) (by first | assumption | exact sd) (by first | assumption | exact sd) sd sd) (enters_of Try.func30 kr rfl) rfl rfl rfl rfl rfl (fun t59 q60 => ?_))
      refine D_on [3, 4, 5, 6, 7, 8, 9, 10, 11] rfl ?_
      refine D_pure (i := 41) [3, 4, 5, 6, 7, 8, 9, 10, 11] rfl kr rfl (pr_pick_t rfl rfl rfl) (.inr rfl) rfl rfl ?_
      refine D_pure (i := 42) [3, 4, 5, 6, 7, 8, 9, 10, 11] rfl kr rfl (pr_move rfl rfl) (.inr rfl) rfl rfl ?_
      refine D_pure (i := 43) [3, 4, 5, 6, 7, 8, 9, 10, 11] rfl kr rfl (pr_move rfl rfl) (.inr rfl) rfl rfl ?_
      refine D_pure (i := 46) [3, 4, 5, 6, 7, 8, 9, 10, 11] rfl kr rfl (pr_move rfl rfl) (.inr rfl) rfl rfl ?_
      refine D_pure (i := 47) [3, 4, 5, 6, 7, 8, 9, 10, 11] rfl kr rfl (pr_move rfl rfl) (.inr rfl) rfl rfl ?_
      refine D_take (i := 44) [3, 4, 5, 6, 7, 8, 9, 10, 11] rfl kr rfl (ld_agg (ds := (key.map b8)) 6 rfl agg_all Try.underlying22 rfl (fwz (n := 32) kr sd) rfl rfl) rfl rfl rfl ?_
      refine D_take (i := 45) [3, 4, 5, 6, 7, 8, 9, 10, 11] rfl kr rfl (ld_agg (ds := ((List.set nonce (kk % 12) ((ath nonce (kk % 12)) ^^^ ob)).map b8)) 0 rfl agg_all Try.underlying38 rfl (fwz (n := 12) kr sd) rfl rfl) rfl rfl rfl ?_
      refine D_one 48 _ rfl kr rfl (op_cn (fun w hw => alike_f key (List.set nonce (kk % 12) ((ath nonce (kk % 12)) ^^^ ob)) aad (aseal key nonce aad cs) A1 n1 c1 B11 (n2 + 16) d12 w (hok_cons ((src_rd 10 rfl) w hw) (hok_cons ((src_rd 7 rfl) w hw) (hok_nil w))) (by first | assumption | exact sd) (by first | assumption | exact sd) (by first | assumption | exact sd) (by first | assumption | exact sd) sd sd) (enters_of Try.func30 kr rfl) rfl rfl rfl rfl rfl (fun t61 q62 => ?_))
      refine D_on [3, 4, 5, 6, 7, 8, 9, 10, 11] rfl ?_
      refine D_pure (i := 49) [3, 4, 5, 6, 7, 8, 9, 10, 11] rfl kr rfl (pr_pick_t rfl rfl rfl) (.inr rfl) rfl rfl ?_
      refine D_pure (i := 50) [3, 4, 5, 6, 7, 8, 9, 10, 11] rfl kr rfl (pr_assign rfl rfl) (.inr rfl) rfl rfl ?_
      refine D_done kr ?_
      exact T_meet () trivial (sc rfl sn) [2, 3, 4, 5, 6, 7, 8, 9, 10, 11] ⟨by decide, rfl⟩
     ·
      refine id (op_bslice (e := 5) (zs := [(b8 ob)]) (qs := [(0, (b8 ob))]) (fun _ => by kernel_rfl) rfl rfl rfl rfl (fun g63 => ?_))
      refine D_on [2, 3, 4, 5, 6, 7, 8, 9, 10] rfl ?_
      refine D_one 27 _ rfl kr rfl (op_cn (fun w hw => copyBytes_f aad A1 n1 c1 w (hok_cons ((src_rd 9 rfl) w hw) (hok_nil w)) sd) (enters_of Try.func31 kr rfl) rfl rfl rfl rfl rfl (fun t64 q65 => ?_))
      obtain ⟨B66, d67⟩ := t64
      refine D_on [3, 4, 5, 6, 7, 8, 9, 10, 11] rfl ?_
      refine D_one 30 _ rfl kr rfl (op_append (z := (b8 (0#8))) (size := 1) (bytes := 1) 0 rfl Try.underlying25 kr kr (by decide) (src_full (z := 1) 1 rfl rfl sd sd) (by simp [Value.oneCell']) sd sd rfl rfl rfl rfl rfl (fun A68 C69 => ?_))
      refine T_as 0 _ (.row (.slice A68 (n1 + 1) C69) 5 1 (n1 + 1) ((aad ++ [ob]).map b8)) rfl (by first | rfl | (congr 1; simp; done) | (simp only [List.map_append]; rfl) | (rw [List.map_append]; rfl)) ?_
      refine D_on [3, 4, 5, 6, 7, 8, 9, 10, 11] rfl ?_
      refine D_one 32 _ rfl kr rfl (op_cn (fun w hw => alike_f key nonce (aad ++ [ob]) (aseal key nonce aad cs) A68 (n1 + 1) C69 B11 (n2 + 16) d12 w (hok_cons ((src_row 0 rfl) w hw) (hok_cons ((src_rd 7 rfl) w hw) (hok_nil w))) (by first | assumption | exact sd) (by first | assumption | exact sd) (by first | assumption | exact sd) (by first | assumption | exact sd) sd sd) (enters_of Try.func30 kr rfl) rfl rfl rfl rfl rfl (fun t70 q71 => ?_))
      refine D_on [3, 4, 5, 6, 7, 8, 9, 10, 11] rfl ?_
      refine D_pure (i := 33) [3, 4, 5, 6, 7, 8, 9, 10, 11] rfl kr rfl (pr_pick_t rfl rfl rfl) (.inr rfl) rfl rfl ?_
      refine D_pure (i := 34) [3, 4, 5, 6, 7, 8, 9, 10, 11] rfl kr rfl (pr_move rfl rfl) (.inr rfl) rfl rfl ?_
      refine D_pure (i := 35) [3, 4, 5, 6, 7, 8, 9, 10, 11] rfl kr rfl (pr_move rfl rfl) (.inr rfl) rfl rfl ?_
      refine D_pure (i := 38) [3, 4, 5, 6, 7, 8, 9, 10, 11] rfl kr rfl (pr_move rfl rfl) (.inr rfl) rfl rfl ?_
      refine D_pure (i := 39) [3, 4, 5, 6, 7, 8, 9, 10, 11] rfl kr rfl (pr_move rfl rfl) (.inr rfl) rfl rfl ?_
      refine D_take (i := 36) [3, 4, 5, 6, 7, 8, 9, 10, 11] rfl kr rfl (ld_agg (ds := ((List.set key (kk % 32) ((ath key (kk % 32)) ^^^ ob)).map b8)) 1 rfl agg_all Try.underlying22 rfl (fwz (n := 32) kr sd) rfl rfl) rfl rfl rfl ?_
      refine D_take (i := 37) [3, 4, 5, 6, 7, 8, 9, 10, 11] rfl kr rfl (ld_agg (ds := (nonce.map b8)) 5 rfl agg_all Try.underlying38 rfl (fwz (n := 12) kr sd) rfl rfl) rfl rfl rfl ?_
      refine D_one 40 _ rfl kr rfl (op_cn (fun w hw => alike_f (List.set key (kk % 32) ((ath key (kk % 32)) ^^^ ob)) nonce aad (aseal key nonce aad cs) A1 n1 c1 B11 (n2 + 16) d12 w (hok_cons ((src_rd 10 rfl) w hw) (hok_cons ((src_rd 7 rfl) w hw) (hok_nil w))) (by first | assumption | exact sd) (by first | assumption | exact sd) (by first | assumption | exact sd) (by first | assumption | exact sd) sd sd) (enters_of Try.func30 kr rfl) rfl rfl rfl rfl rfl (fun t72 q73 => ?_))
      refine D_on [3, 4, 5, 6, 7, 8, 9, 10, 11] rfl ?_
      refine D_pure (i := 41) [3, 4, 5, 6, 7, 8, 9, 10, 11] rfl kr rfl (pr_pick_t rfl rfl rfl) (.inr rfl) rfl rfl ?_
      refine D_pure (i := 42) [3, 4, 5, 6, 7, 8, 9, 10, 11] rfl kr rfl (pr_move rfl rfl) (.inr rfl) rfl rfl ?_
      refine D_pure (i := 43) [3, 4, 5, 6, 7, 8, 9, 10, 11] rfl kr rfl (pr_move rfl rfl) (.inr rfl) rfl rfl ?_
      refine D_pure (i := 46) [3, 4, 5, 6, 7, 8, 9, 10, 11] rfl kr rfl (pr_move rfl rfl) (.inr rfl) rfl rfl ?_
      refine D_pure (i := 47) [3, 4, 5, 6, 7, 8, 9, 10, 11] rfl kr rfl (pr_move rfl rfl) (.inr rfl) rfl rfl ?_
      refine D_take (i := 44) [3, 4, 5, 6, 7, 8, 9, 10, 11] rfl kr rfl (ld_agg (ds := (key.map b8)) 6 rfl agg_all Try.underlying22 rfl (fwz (n := 32) kr sd) rfl rfl) rfl rfl rfl ?_
      refine D_take (i := 45) [3, 4, 5, 6, 7, 8, 9, 10, 11] rfl kr rfl (ld_agg (ds := ((List.set nonce (kk % 12) ((ath nonce (kk % 12)) ^^^ ob)).map b8)) 0 rfl agg_all Try.underlying38 rfl (fwz (n := 12) kr sd) rfl rfl) rfl rfl rfl ?_
      refine D_one 48 _ rfl kr rfl (op_cn (fun w hw => alike_f key (List.set nonce (kk % 12) ((ath nonce (kk % 12)) ^^^ ob)) aad (aseal key nonce aad cs) A1 n1 c1 B11 (n2 + 16) d12 w (hok_cons ((src_rd 10 rfl) w hw) (hok_cons ((src_rd 7 rfl) w hw) (hok_nil w))) (by first | assumption | exact sd) (by first | assumption | exact sd) (by first | assumption | exact sd) (by first | assumption | exact sd) sd sd) (enters_of Try.func30 kr rfl) rfl rfl rfl rfl rfl (fun t74 q75 => ?_))
      refine D_on [3, 4, 5, 6, 7, 8, 9, 10, 11] rfl ?_
      refine D_pure (i := 49) [3, 4, 5, 6, 7, 8, 9, 10, 11] rfl kr rfl (pr_pick_t rfl rfl rfl) (.inr rfl) rfl rfl ?_
      refine D_pure (i := 50) [3, 4, 5, 6, 7, 8, 9, 10, 11] rfl kr rfl (pr_assign rfl rfl) (.inr rfl) rfl rfl ?_
      refine D_done kr ?_
      exact T_meet () trivial (sc rfl sn) [2, 3, 4, 5, 6, 7, 8, 9, 10, 11] ⟨by decide, rfl⟩
    ·
     rintro ⟨⟩ -
     refine T_re [(14, (.bool true))] (sc rfl sn) ?_
     refine T_he [0, 1, 2, 3, 4, 5, 6, 7, 8, 9] [.rd B34 1 cc d12 ((List.take cc (aseal key nonce aad cs)).map b8), .blk g27 38 ((List.set nonce (kk % 12) ((ath nonce (kk % 12)) ^^^ ob)).map b8), .blk g26 22 ((List.set key (kk % 32) ((ath key (kk % 32)) ^^^ ob)).map b8), .row (.slice B24 (n2 + 16) d25) 5 1 (n2 + 16) ((List.set (aseal key nonce aad cs) (kk / 8) ((ath (aseal key nonce aad cs) (kk / 8)) ^^^ (1#8 <<< (kk % 8)))).map b8), .row (.slice B15 ((n2 + 16) - 16) d16) 5 1 ((n2 + 16) - 16) ((aplain key nonce (aseal key nonce aad cs)).map b8), .rd B11 1 (n2 + 16) d12 ((aseal key nonce aad cs).map b8), .blk g2 38 (nonce.map b8), .blk g1 22 (key.map b8), .rd A1 1 n1 c1 (aad.map b8), .rd A2 1 n2 c2 (cs.map b8)] ⟨by decide, rfl⟩ ?_
     refine T_ret ?_
     exact T_fin () (by first | trivial | omega | (simp; done)) (res1 rfl rfl) [] ⟨by decide, rfl⟩ rfl
end Go.Proofs.Ytemjinkdfjoicaa
