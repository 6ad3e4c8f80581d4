/- What Open answers, by facts. Conditions: none but the lengths that each says. -/
import Derived.Test.YtemjinkdfjoicaaGAead2
import Derived.Test.YtemjinkdfjoicaaProg
import Derived.Test.YtemjinkdfjoicaaFwU
namespace Go.Proofs.Ytemjinkdfjoicaa
set_option linter.unusedVariables false
set_option linter.unusedSimpArgs false
set_option linter.unnecessarySimpa false
open Go.RowKit Bv Fw

set_option maxRecDepth 100000 in
set_option maxHeartbeats 4000000 in
theorem open_ok_f (key : List (BitVec 8)) (nonce : List (BitVec 8)) (aad : List (BitVec 8)) (cs : List (BitVec 8)) (A1 : Option Addr) (n1 : Nat) (c1 : Nat) (A2 : Option Addr) (n2 : Nat) (c2 : Nat) (w : World) (hO : HOK [.rd A1 1 n1 c1 (aad.map b8), .rd A2 1 n2 c2 (cs.map b8)] w) (hk : key.length = 32) (hn : nonce.length = 12) (h1 : aad.length = n1) (h2 : cs.length = n2) (h3 : n1 ≤ 65536) (h4 : 16 ≤ n2) (h5 : n2 ≤ 65552) (hg : agood key nonce aad cs) : Calls Try.prog 27 [(.agg (key.map b8).toArray), (.agg (nonce.map b8).toArray), (.slice A1 n1 c1), (.slice A2 n2 c2)].toArray w (Ret (T := Option Addr × Nat) [] w (fun ⟨B, d⟩ => True) (fun ⟨B, d⟩ => (.tuple [(.slice B (n2 - 16) d), (.int .i64 ((0 : Nat) : Int))].toArray)) (fun ⟨B, d⟩ => [.row (.slice B (n2 - 16) d) 5 1 (n2 - 16) ((aplain key nonce cs).map b8)])) := by
 have htl := atag_len key nonce aad (List.take (n2 - 16) cs)
 have hcl := cxor_len key nonce 1#32 (List.take (n2 - 16) cs)
 have hF : Wid Fence.wide := wid_wide
 refine enter (c := _) Try.func27 rfl [] [(.agg (key.map b8).toArray), (.agg (nonce.map b8).toArray), (.slice A1 n1 c1), (.slice A2 n2 c2)] [.rd A1 1 n1 c1 (aad.map b8), .rd A2 1 n2 c2 (cs.map b8)] (by rw [Try.ntmps27]; rfl) (own_rds hO rfl) ?_
 rw [Try.ntmps27]
 refine T_re [(0, (.agg (key.map b8).toArray)), (1, (.agg (nonce.map b8).toArray)), (2, (.slice A1 n1 c1)), (3, (.slice A2 n2 c2))] (sc rfl (sc rfl (sc rfl (sc rfl sn)))) ?_
 refine T_he [0, 1] [.rd A1 1 n1 c1 (aad.map b8), .rd A2 1 n2 c2 (cs.map b8)] ⟨by decide, rfl⟩ ?_
 refine Tsr hF rfl ?_
 refine L_op rfl (op_box (zs := (key.map b8)) rfl rfl rfl rfl rfl (fun g1 => ?_))
 refine L_op rfl (op_box (zs := (nonce.map b8)) rfl rfl rfl rfl rfl (fun g2 => ?_))
 refine la rfl rfl rfl rfl rfl ?_
 refine la rfl rfl rfl rfl rfl ?_
 refine L_nil ?_
 refine Tsr hF rfl ?_
 refine lm rfl rfl rfl rfl rfl ?_
 refine lo rfl (pr_len_sl Try.underlying25 rfl rfl) rfl rfl ?_
 refine lo rfl (pr_sub (ns_i64 (a := n2) (b := 16) sd sd) rfl rfl rfl) rfl rfl ?_
 refine la rfl rfl rfl rfl rfl ?_
 refine L_nil ?_
 refine T_seq ?_
 refine T_block ?_
 refine Tsr hF rfl ?_
 refine lm rfl rfl rfl rfl rfl ?_
 refine lo rfl (pr_len_sl Try.underlying25 rfl rfl) rfl rfl ?_
 refine lo rfl (pr_cmp (bo := .gtr) (nc_lt (a := 65536) (b := n1)) rfl rfl rfl rfl) rfl rfl ?_
 refine lm rfl rfl rfl rfl rfl ?_
 refine T_slot 19 (.bool (decide (65536 < n1))) (.bool false) rfl (congrArg _ (by simp; omega)) ?_
 refine lm rfl rfl rfl rfl rfl ?_
 refine lo rfl (pr_cmp (bo := .gtr) (nc_lt (a := 65536) (b := n2 - 16)) rfl rfl rfl rfl) rfl rfl ?_
 refine lo rfl (pr_pick_f rfl rfl rfl) rfl rfl ?_
 refine la rfl rfl rfl rfl rfl ?_
 refine L_nil ?_
 refine T_cond_no (t := decide (65536 < n2 - 16)) rfl (by simp; omega) ?_
 refine Tsr hF rfl ?_
 refine lm rfl rfl rfl rfl rfl ?_
 refine lo rfl (pr_cmp (bo := .lss) (nc_lt (a := n2 - 16) (b := 0)) rfl rfl rfl rfl) rfl rfl ?_
 refine la rfl rfl rfl rfl rfl ?_
 refine L_nil ?_
 refine T_cond_f rfl ?_
 refine T_skip ?_
 refine T_seq ?_
 refine T_seq ?_
 refine T_regD [.blk g2 38 (nonce.map b8), .blk g1 22 (key.map b8), .rd A1 1 n1 c1 (aad.map b8), .rd A2 1 n2 c2 (cs.map b8)] 9 9 #[false, false, false, false, false, false, false, false, false] hF kr kr ?_
 refine D_pure (i := 2) [0, 1, 2, 3] rfl kr rfl (pr_move rfl rfl) (.inr rfl) rfl rfl ?_
 refine D_pure (i := 3) [0, 1, 2, 3] rfl kr rfl (pr_move rfl rfl) (.inr rfl) rfl rfl ?_
 refine D_pure (i := 4) [0, 1, 2, 3] rfl kr rfl (pr_move rfl rfl) (.inr rfl) rfl rfl ?_
 refine D_take (i := 0) [0, 1, 2, 3] rfl kr rfl (ld_agg (ds := (key.map b8)) 1 rfl agg_all Try.underlying22 rfl (fwz (n := 32) kr sd) rfl rfl) rfl rfl rfl ?_
 refine D_take (i := 1) [0, 1, 2, 3] rfl kr rfl (ld_agg (ds := (nonce.map b8)) 0 rfl agg_all Try.underlying38 rfl (fwz (n := 12) kr sd) rfl rfl) rfl rfl rfl ?_
 refine D_join (T := Nat) (fun _ => True) (fun g7 => [(3, (.slice A2 n2 c2)), (4, (.pointer (some ⟨g1, 0, none⟩))), (5, (.pointer (some ⟨g2, 0, none⟩))), (10, (.int .i64 ((n2 - 16 : Nat) : Int))), (11, (.pointer (some ⟨g7, 0, none⟩)))]) (fun g7 => [.blk g7 27 ((atag key nonce aad (List.take (n2 - 16) cs)).map b8), .blk g2 38 (nonce.map b8), .blk g1 22 (key.map b8), .rd A1 1 n1 c1 (aad.map b8), .rd A2 1 n2 c2 (cs.map b8)]) ?_ ?_
 ·
  refine D_all [5, 7] kr (by simp) ⟨⟨_, rfl, rfl, ?_⟩, ⟨_, rfl, rfl, ?_⟩, trivial⟩
  ·
   refine id (op_slice_rd (l := 0) (u := n2 - 16) 3 rfl sd sd Try.underlying25 kr rfl rfl rfl ⟨_, rfl⟩ rfl rfl (fun B8 => ?_))
   refine T_as 0 _ (.rd B8 1 (n2 - 16) c2 ((List.take (n2 - 16) cs).map b8)) rfl (by congr 1; simp [List.map_take, List.map_drop] <;> omega) ?_
   refine T_slot 31 _ (.slice B8 (n2 - 16) c2) rfl (by congr 1) ?_
   refine D_on [1, 2, 3, 4] rfl ?_
   refine D_all [6, 7] kr (by simp) ⟨⟨_, rfl, rfl, ?_⟩, ⟨_, rfl, rfl, ?_⟩, trivial⟩
   ·
    refine id (op_cn (fun w hw => atag_f key nonce aad (List.take (n2 - 16) cs) A1 n1 c1 B8 (n2 - 16) c2 w (hok_cons ((src_rd 3 rfl) w hw) (hok_cons ((src_rd 0 rfl) w hw) (hok_nil w))) (by first | assumption | exact sd) (by first | assumption | exact sd) (by first | assumption | exact sd) (by first | assumption | exact sd) sd sd) (enters_of Try.func44 kr rfl) rfl rfl rfl rfl rfl (fun t9 q10 => ?_))
    refine D_on [1, 2, 3, 4] rfl ?_
    refine D_one 7 _ rfl kr rfl (op_alloc (z := .agg ((List.replicate 16 0#8).map b8).toArray) (zs := ((List.replicate 16 0#8).map b8)) kr rfl rfl rfl rfl (fun g11 => ?_))
    refine D_on [2, 3, 4, 5] rfl ?_
    refine D_one 8 _ rfl kr rfl (op_sto (n := 16) (vs := ((atag key nonce aad (List.take (n2 - 16) cs)).map b8)) 0 rfl rfl kr (all8_one _) kr sd rfl rfl rfl rfl ?_)
    refine D_on [2, 3, 4, 5] rfl ?_
    refine D_done kr ?_
    exact T_meet g11 trivial (sc rfl (sc rfl (sc rfl (sc rfl (sc rfl sn))))) [0, 2, 3, 4, 5] ⟨by decide, rfl⟩
   ·
    refine id (op_alloc (z := .agg ((List.replicate 16 0#8).map b8).toArray) (zs := ((List.replicate 16 0#8).map b8)) kr rfl rfl rfl rfl (fun g12 => ?_))
    refine D_on [2, 3, 4, 5] rfl ?_
    refine D_one 6 _ rfl kr rfl (op_cn (fun w hw => atag_f key nonce aad (List.take (n2 - 16) cs) A1 n1 c1 B8 (n2 - 16) c2 w (hok_cons ((src_rd 4 rfl) w hw) (hok_cons ((src_rd 1 rfl) w hw) (hok_nil w))) (by first | assumption | exact sd) (by first | assumption | exact sd) (by first | assumption | exact sd) (by first | assumption | exact sd) sd sd) (enters_of Try.func44 kr rfl) rfl rfl rfl rfl rfl (fun t13 q14 => ?_))
    refine D_on [2, 3, 4, 5] rfl ?_
    refine D_one 8 _ rfl kr rfl (op_sto (n := 16) (vs := ((atag key nonce aad (List.take (n2 - 16) cs)).map b8)) 0 rfl rfl kr (all8_one _) kr sd rfl rfl rfl rfl ?_)
    refine D_on [2, 3, 4, 5] rfl ?_
    refine D_done kr ?_
    exact T_meet g12 trivial (sc rfl (sc rfl (sc rfl (sc rfl (sc rfl sn))))) [0, 2, 3, 4, 5] ⟨by decide, rfl⟩
  ·
   refine id (op_alloc (z := .agg ((List.replicate 16 0#8).map b8).toArray) (zs := ((List.replicate 16 0#8).map b8)) kr rfl rfl rfl rfl (fun g15 => ?_))
   refine D_on [1, 2, 3, 4] rfl ?_
   refine D_one 5 _ rfl kr rfl (op_slice_rd (l := 0) (u := n2 - 16) 4 rfl sd sd Try.underlying25 kr rfl rfl rfl ⟨_, rfl⟩ rfl rfl (fun B16 => ?_))
   refine T_as 0 _ (.rd B16 1 (n2 - 16) c2 ((List.take (n2 - 16) cs).map b8)) rfl (by congr 1; simp [List.map_take, List.map_drop] <;> omega) ?_
   refine T_slot 31 _ (.slice B16 (n2 - 16) c2) rfl (by congr 1) ?_
   refine D_on [2, 3, 4, 5] rfl ?_
   refine D_one 6 _ rfl kr rfl (op_cn (fun w hw => atag_f key nonce aad (List.take (n2 - 16) cs) A1 n1 c1 B16 (n2 - 16) c2 w (hok_cons ((src_rd 4 rfl) w hw) (hok_cons ((src_rd 0 rfl) w hw) (hok_nil w))) (by first | assumption | exact sd) (by first | assumption | exact sd) (by first | assumption | exact sd) (by first | assumption | exact sd) sd sd) (enters_of Try.func44 kr rfl) rfl rfl rfl rfl rfl (fun t17 q18 => ?_))
   refine D_on [2, 3, 4, 5] rfl ?_
   refine D_one 8 _ rfl kr rfl (op_sto (n := 16) (vs := ((atag key nonce aad (List.take (n2 - 16) cs)).map b8)) 1 rfl rfl kr (all8_one _) kr sd rfl rfl rfl rfl ?_)
   refine D_on [2, 3, 4, 5] rfl ?_
   refine D_done kr ?_
   exact T_meet g15 trivial (sc rfl (sc rfl (sc rfl (sc rfl (sc rfl sn))))) [0, 2, 3, 4, 5] ⟨by decide, rfl⟩
 ·
  rintro g7 -
  refine T_re [(3, (.slice A2 n2 c2)), (4, (.pointer (some ⟨g1, 0, none⟩))), (5, (.pointer (some ⟨g2, 0, none⟩))), (10, (.int .i64 ((n2 - 16 : Nat) : Int))), (11, (.pointer (some ⟨g7, 0, none⟩)))] (sc rfl (sc rfl (sc rfl (sc rfl (sc rfl sn))))) ?_
  refine T_he [0, 1, 2, 3, 4] [.blk g7 27 ((atag key nonce aad (List.take (n2 - 16) cs)).map b8), .blk g2 38 (nonce.map b8), .blk g1 22 (key.map b8), .rd A1 1 n1 c1 (aad.map b8), .rd A2 1 n2 c2 (cs.map b8)] ⟨by decide, rfl⟩ ?_
  refine T_seq ?_
  refine T_regD [.blk g7 27 ((atag key nonce aad (List.take (n2 - 16) cs)).map b8), .blk g2 38 (nonce.map b8), .blk g1 22 (key.map b8), .rd A1 1 n1 c1 (aad.map b8), .rd A2 1 n2 c2 (cs.map b8)] 6 6 #[false, false, false, false, false, false] hF kr kr ?_
  refine D_pure (i := 0) [0, 1, 2, 3, 4] rfl kr rfl (pr_sla (l := 0) (u := 16) (m := 0) sd sd sd rfl Try.underlying27 (z := 1) kr rfl rfl rfl rfl) (.inr rfl) rfl rfl ?_
  refine D_pure (i := 1) [0, 1, 2, 3, 4] rfl kr rfl (pr_move rfl rfl) (.inr rfl) rfl rfl ?_
  refine D_pure (i := 2) [0, 1, 2, 3, 4] rfl kr rfl (pr_move rfl rfl) (.inr rfl) rfl rfl ?_
  refine D_one 3 _ rfl kr rfl (op_slice_rd (l := n2 - 16) (u := n2) 4 rfl sd sd Try.underlying25 kr rfl rfl ⟨_, rfl⟩ rfl rfl rfl (fun B19 => ?_))
  refine T_as 0 _ (.rd B19 1 (n2 - (n2 - 16)) (c2 - (n2 - 16)) ((List.drop (n2 - 16) cs).map b8)) rfl (by congr 1; first | rfl | (rw [List.take_of_length_le (by simp; omega)]; simp)) ?_
  refine T_as 0 _ (.rd B19 1 16 (c2 - (n2 - 16)) ((List.drop (n2 - 16) cs).map b8)) rfl (by rw [show n2 - (n2 - 16) = 16 by omega]) ?_
  refine T_slot 36 (.slice B19 (n2 - (n2 - 16)) (c2 - (n2 - 16))) (.slice B19 16 (c2 - (n2 - 16))) rfl (by rw [show n2 - (n2 - 16) = 16 by omega]) ?_
  refine D_on [1, 2, 3, 4, 5] rfl ?_
  refine D_one 4 _ rfl kr rfl (op_cn (fun w hw => ctequal_f (atag key nonce aad (List.take (n2 - 16) cs)) (some ⟨g7, 0, none⟩) 16 16 (List.drop (n2 - 16) cs) B19 (c2 - (n2 - 16)) w (hok_cons ((src_full (z := 1) 1 rfl sd sd sd) w hw) (hok_cons ((src_rd 0 rfl) w hw) (hok_nil w))) sd sd sd) (enters_of Try.func47 kr rfl) rfl rfl rfl rfl rfl (fun t20 q21 => ?_))
  refine D_on [1, 2, 3, 4, 5] rfl ?_
  refine D_pure (i := 5) [1, 2, 3, 4, 5] rfl kr rfl (pr_cmp (bo := .eql) (n64_beq (eqw (atag key nonce aad (List.take (n2 - 16) cs)) (List.drop (n2 - 16) cs)) (0#64)) rfl rfl rfl rfl) (.inr rfl) rfl rfl ?_
  refine D_done kr ?_
  refine T_cond_no (t := ((eqw (atag key nonce aad (List.take (n2 - 16) cs)) (List.drop (n2 - 16) cs)) == 0#64)) rfl (eqw_yes ((agood_iff key nonce aad cs n2 h2).1 hg)) ?_
  refine T_skip ?_
  refine T_seq ?_
  refine T_regD [.rd B19 1 16 (c2 - (n2 - 16)) ((List.drop (n2 - 16) cs).map b8), .blk g7 27 ((atag key nonce aad (List.take (n2 - 16) cs)).map b8), .blk g2 38 (nonce.map b8), .blk g1 22 (key.map b8), .rd A1 1 n1 c1 (aad.map b8), .rd A2 1 n2 c2 (cs.map b8)] 8 8 #[false, false, false, false, false, false, false, false] hF kr kr ?_
  refine D_pure (i := 2) [0, 1, 2, 3, 4, 5] rfl kr rfl (pr_move rfl rfl) (.inr rfl) rfl rfl ?_
  refine D_pure (i := 3) [0, 1, 2, 3, 4, 5] rfl kr rfl (pr_move rfl rfl) (.inr rfl) rfl rfl ?_
  refine D_take (i := 0) [0, 1, 2, 3, 4, 5] rfl kr rfl (ld_agg (ds := (key.map b8)) 3 rfl agg_all Try.underlying22 rfl (fwz (n := 32) kr sd) rfl rfl) rfl rfl rfl ?_
  refine D_take (i := 1) [0, 1, 2, 3, 4, 5] rfl kr rfl (ld_agg (ds := (nonce.map b8)) 2 rfl agg_all Try.underlying38 rfl (fwz (n := 12) kr sd) rfl rfl) rfl rfl rfl ?_
  refine D_one 4 _ rfl kr rfl (op_slice_rd (l := 0) (u := n2 - 16) 5 rfl sd sd Try.underlying25 kr rfl rfl rfl ⟨_, rfl⟩ rfl rfl (fun B22 => ?_))
  refine T_as 0 _ (.rd B22 1 (n2 - 16) c2 ((List.take (n2 - 16) cs).map b8)) rfl (by congr 1; simp [List.map_take, List.map_drop] <;> omega) ?_
  refine T_slot 43 _ (.slice B22 (n2 - 16) c2) rfl (by congr 1) ?_
  refine D_on [1, 2, 3, 4, 5, 6] rfl ?_
  refine D_one 5 _ rfl kr rfl (op_cn (fun w hw => xor_f key nonce (1#32) (List.take (n2 - 16) cs) B22 (n2 - 16) c2 w (hok_cons ((src_rd 0 rfl) w hw) (hok_nil w)) (by first | assumption | exact sd) (by first | assumption | exact sd) (by first | assumption | omega | (simp; done) | (simp; omega)) sd) (enters_of Try.func43 kr rfl) rfl rfl rfl rfl rfl (fun t23 q24 => ?_))
  obtain ⟨B25, d26⟩ := t23
  refine D_on [2, 3, 4, 5, 6, 7] rfl ?_
  refine D_pure (i := 6) [2, 3, 4, 5, 6, 7] rfl kr rfl (pr_assign rfl rfl) (.inr rfl) rfl rfl ?_
  refine D_pure (i := 7) [2, 3, 4, 5, 6, 7] rfl kr rfl (pr_assign rfl rfl) (.inr rfl) rfl rfl ?_
  refine D_done kr ?_
  refine T_ret ?_
  refine T_as 0 _ (.row (.slice B25 (n2 - 16) d26) 5 1 (n2 - 16) ((aplain key nonce cs).map b8)) rfl (by rw [aplain_def key nonce cs n2 h2]) ?_
  exact T_fin (B25, d26) (by first | trivial | omega | (simp; done)) (res2 rfl rfl rfl) [0] ⟨by decide, rfl⟩ rfl
set_option maxRecDepth 100000 in
set_option maxHeartbeats 4000000 in
theorem open_bad_f (key : List (BitVec 8)) (nonce : List (BitVec 8)) (aad : List (BitVec 8)) (cs : List (BitVec 8)) (A1 : Option Addr) (n1 : Nat) (c1 : Nat) (A2 : Option Addr) (n2 : Nat) (c2 : Nat) (w : World) (hO : HOK [.rd A1 1 n1 c1 (aad.map b8), .rd A2 1 n2 c2 (cs.map b8)] w) (hk : key.length = 32) (hn : nonce.length = 12) (h1 : aad.length = n1) (h2 : cs.length = n2) (h3 : n1 ≤ 65536) (h4 : 16 ≤ n2) (h5 : n2 ≤ 65552) (hg : ¬ agood key nonce aad cs) : Calls Try.prog 27 [(.agg (key.map b8).toArray), (.agg (nonce.map b8).toArray), (.slice A1 n1 c1), (.slice A2 n2 c2)].toArray w (Ret (T := Unit) [] w (fun _ => True) (fun _ => (.tuple [(.slice none 0 0), (.int .i64 ((6 : Nat) : Int))].toArray)) (fun _ => [])) := by
 have htl := atag_len key nonce aad (List.take (n2 - 16) cs)
 have hcl := cxor_len key nonce 1#32 (List.take (n2 - 16) cs)
 have hF : Wid Fence.wide := wid_wide
 refine enter (c := _) Try.func27 rfl [] [(.agg (key.map b8).toArray), (.agg (nonce.map b8).toArray), (.slice A1 n1 c1), (.slice A2 n2 c2)] [.rd A1 1 n1 c1 (aad.map b8), .rd A2 1 n2 c2 (cs.map b8)] (by rw [Try.ntmps27]; rfl) (own_rds hO rfl) ?_
 rw [Try.ntmps27]
 refine T_re [(0, (.agg (key.map b8).toArray)), (1, (.agg (nonce.map b8).toArray)), (2, (.slice A1 n1 c1)), (3, (.slice A2 n2 c2))] (sc rfl (sc rfl (sc rfl (sc rfl sn)))) ?_
 refine T_he [0, 1] [.rd A1 1 n1 c1 (aad.map b8), .rd A2 1 n2 c2 (cs.map b8)] ⟨by decide, rfl⟩ ?_
 refine Tsr hF rfl ?_
 refine L_op rfl (op_box (zs := (key.map b8)) rfl rfl rfl rfl rfl (fun g1 => ?_))
 refine L_op rfl (op_box (zs := (nonce.map b8)) rfl rfl rfl rfl rfl (fun g2 => ?_))
 refine la rfl rfl rfl rfl rfl ?_
 refine la rfl rfl rfl rfl rfl ?_
 refine L_nil ?_
 refine Tsr hF rfl ?_
 refine lm rfl rfl rfl rfl rfl ?_
 refine lo rfl (pr_len_sl Try.underlying25 rfl rfl) rfl rfl ?_
 refine lo rfl (pr_sub (ns_i64 (a := n2) (b := 16) sd sd) rfl rfl rfl) rfl rfl ?_
 refine la rfl rfl rfl rfl rfl ?_
 refine L_nil ?_
 refine T_seq ?_
 refine T_block ?_
 refine Tsr hF rfl ?_
 refine lm rfl rfl rfl rfl rfl ?_
 refine lo rfl (pr_len_sl Try.underlying25 rfl rfl) rfl rfl ?_
 refine lo rfl (pr_cmp (bo := .gtr) (nc_lt (a := 65536) (b := n1)) rfl rfl rfl rfl) rfl rfl ?_
 refine lm rfl rfl rfl rfl rfl ?_
 refine T_slot 19 (.bool (decide (65536 < n1))) (.bool false) rfl (congrArg _ (by simp; omega)) ?_
 refine lm rfl rfl rfl rfl rfl ?_
 refine lo rfl (pr_cmp (bo := .gtr) (nc_lt (a := 65536) (b := n2 - 16)) rfl rfl rfl rfl) rfl rfl ?_
 refine lo rfl (pr_pick_f rfl rfl rfl) rfl rfl ?_
 refine la rfl rfl rfl rfl rfl ?_
 refine L_nil ?_
 refine T_cond_no (t := decide (65536 < n2 - 16)) rfl (by simp; omega) ?_
 refine Tsr hF rfl ?_
 refine lm rfl rfl rfl rfl rfl ?_
 refine lo rfl (pr_cmp (bo := .lss) (nc_lt (a := n2 - 16) (b := 0)) rfl rfl rfl rfl) rfl rfl ?_
 refine la rfl rfl rfl rfl rfl ?_
 refine L_nil ?_
 refine T_cond_f rfl ?_
 refine T_skip ?_
 refine T_seq ?_
 refine T_seq ?_
 refine T_regD [.blk g2 38 (nonce.map b8), .blk g1 22 (key.map b8), .rd A1 1 n1 c1 (aad.map b8), .rd A2 1 n2 c2 (cs.map b8)] 9 9 #[false, false, false, false, false, false, false, false, false] hF kr kr ?_
 refine D_pure (i := 2) [0, 1, 2, 3] rfl kr rfl (pr_move rfl rfl) (.inr rfl) rfl rfl ?_
 refine D_pure (i := 3) [0, 1, 2, 3] rfl kr rfl (pr_move rfl rfl) (.inr rfl) rfl rfl ?_
 refine D_pure (i := 4) [0, 1, 2, 3] rfl kr rfl (pr_move rfl rfl) (.inr rfl) rfl rfl ?_
 refine D_take (i := 0) [0, 1, 2, 3] rfl kr rfl (ld_agg (ds := (key.map b8)) 1 rfl agg_all Try.underlying22 rfl (fwz (n := 32) kr sd) rfl rfl) rfl rfl rfl ?_
 refine D_take (i := 1) [0, 1, 2, 3] rfl kr rfl (ld_agg (ds := (nonce.map b8)) 0 rfl agg_all Try.underlying38 rfl (fwz (n := 12) kr sd) rfl rfl) rfl rfl rfl ?_
 refine D_join (T := Nat) (fun _ => True) (fun g7 => [(3, (.slice A2 n2 c2)), (4, (.pointer (some ⟨g1, 0, none⟩))), (5, (.pointer (some ⟨g2, 0, none⟩))), (10, (.int .i64 ((n2 - 16 : Nat) : Int))), (11, (.pointer (some ⟨g7, 0, none⟩)))]) (fun g7 => [.blk g7 27 ((atag key nonce aad (List.take (n2 - 16) cs)).map b8), .blk g2 38 (nonce.map b8), .blk g1 22 (key.map b8), .rd A1 1 n1 c1 (aad.map b8), .rd A2 1 n2 c2 (cs.map b8)]) ?_ ?_
 ·
  refine D_all [5, 7] kr (by simp) ⟨⟨_, rfl, rfl, ?_⟩, ⟨_, rfl, rfl, ?_⟩, trivial⟩
  ·
   refine id (op_slice_rd (l := 0) (u := n2 - 16) 3 rfl sd sd Try.underlying25 kr rfl rfl rfl ⟨_, rfl⟩ rfl rfl (fun B8 => ?_))
   refine T_as 0 _ (.rd B8 1 (n2 - 16) c2 ((List.take (n2 - 16) cs).map b8)) rfl (by congr 1; simp [List.map_take, List.map_drop] <;> omega) ?_
   refine T_slot 31 _ (.slice B8 (n2 - 16) c2) rfl (by congr 1) ?_
   refine D_on [1, 2, 3, 4] rfl ?_
   refine D_all [6, 7] kr (by simp) ⟨⟨_, rfl, rfl, ?_⟩, ⟨_, rfl, rfl, ?_⟩, trivial⟩
   ·
    refine id (op_cn (fun w hw => atag_f key nonce aad (List.take (n2 - 16) cs) A1 n1 c1 B8 (n2 - 16) c2 w (hok_cons ((src_rd 3 rfl) w hw) (hok_cons ((src_rd 0 rfl) w hw) (hok_nil w))) (by first | assumption | exact sd) (by first | assumption | exact sd) (by first | assumption | exact sd) (by first | assumption | exact sd) sd sd) (enters_of Try.func44 kr rfl) rfl rfl rfl rfl rfl (fun t9 q10 => ?_))
    refine D_on [1, 2, 3, 4] rfl ?_
    refine D_one 7 _ rfl kr rfl (op_alloc (z := .agg ((List.replicate 16 0#8).map b8).toArray) (zs := ((List.replicate 16 0#8).map b8)) kr rfl rfl rfl rfl (fun g11 => ?_))
    refine D_on [2, 3, 4, 5] rfl ?_
    refine D_one 8 _ rfl kr rfl (op_sto (n := 16) (vs := ((atag key nonce aad (List.take (n2 - 16) cs)).map b8)) 0 rfl rfl kr (all8_one _) kr sd rfl rfl rfl rfl ?_)
    refine D_on [2, 3, 4, 5] rfl ?_
    refine D_done kr ?_
    exact T_meet g11 trivial (sc rfl (sc rfl (sc rfl (sc rfl (sc rfl sn))))) [0, 2, 3, 4, 5] ⟨by decide, rfl⟩
   ·
    refine id (op_alloc (z := .agg ((List.replicate 16 0#8).map b8).toArray) (zs := ((List.replicate 16 0#8).map b8)) kr rfl rfl rfl rfl (fun g12 => ?_))
    refine D_on [2, 3, 4, 5] rfl ?_
    refine D_one 6 _ rfl kr rfl (op_cn (fun w hw => atag_f key nonce aad (List.take (n2 - 16) cs) A1 n1 c1 B8 (n2 - 16) c2 w (hok_cons ((src_rd 4 rfl) w hw) (hok_cons ((src_rd 1 rfl) w hw) (hok_nil w))) (by first | assumption | exact sd) (by first | assumption | exact sd) (by first | assumption | exact sd) (by first | assumption | exact sd) sd sd) (enters_of Try.func44 kr rfl) rfl rfl rfl rfl rfl (fun t13 q14 => ?_))
    refine D_on [2, 3, 4, 5] rfl ?_
    refine D_one 8 _ rfl kr rfl (op_sto (n := 16) (vs := ((atag key nonce aad (List.take (n2 - 16) cs)).map b8)) 0 rfl rfl kr (all8_one _) kr sd rfl rfl rfl rfl ?_)
    refine D_on [2, 3, 4, 5] rfl ?_
    refine D_done kr ?_
    exact T_meet g12 trivial (sc rfl (sc rfl (sc rfl (sc rfl (sc rfl sn))))) [0, 2, 3, 4, 5] ⟨by decide, rfl⟩
  ·
   refine id (op_alloc (z := .agg ((List.replicate 16 0#8).map b8).toArray) (zs := ((List.replicate 16 0#8).map b8)) kr rfl rfl rfl rfl (fun g15 => ?_))
   refine D_on [1, 2, 3, 4] rfl ?_
   refine D_one 5 _ rfl kr rfl (op_slice_rd (l := 0) (u := n2 - 16) 4 rfl sd sd Try.underlying25 kr rfl rfl rfl ⟨_, rfl⟩ rfl rfl (fun B16 => ?_))
   refine T_as 0 _ (.rd B16 1 (n2 - 16) c2 ((List.take (n2 - 16) cs).map b8)) rfl (by congr 1; simp [List.map_take, List.map_drop] <;> omega) ?_
   refine T_slot 31 _ (.slice B16 (n2 - 16) c2) rfl (by congr 1) ?_
   refine D_on [2, 3, 4, 5] rfl ?_
   refine D_one 6 _ rfl kr rfl (op_cn (fun w hw => atag_f key nonce aad (List.take (n2 - 16) cs) A1 n1 c1 B16 (n2 - 16) c2 w (hok_cons ((src_rd 4 rfl) w hw) (hok_cons ((src_rd 0 rfl) w hw) (hok_nil w))) (by first | assumption | exact sd) (by first | assumption | exact sd) (by first | assumption | exact sd) (by first | assumption | exact sd) sd sd) (enters_of Try.func44 kr rfl) rfl rfl rfl rfl rfl (fun t17 q18 => ?_))
   refine D_on [2, 3, 4, 5] rfl ?_
   refine D_one 8 _ rfl kr rfl (op_sto (n := 16) (vs := ((atag key nonce aad (List.take (n2 - 16) cs)).map b8)) 1 rfl rfl kr (all8_one _) kr sd rfl rfl rfl rfl ?_)
   refine D_on [2, 3, 4, 5] rfl ?_
   refine D_done kr ?_
   exact T_meet g15 trivial (sc rfl (sc rfl (sc rfl (sc rfl (sc rfl sn))))) [0, 2, 3, 4, 5] ⟨by decide, rfl⟩
 ·
  rintro g7 -
  refine T_re [(3, (.slice A2 n2 c2)), (4, (.pointer (some ⟨g1, 0, none⟩))), (5, (.pointer (some ⟨g2, 0, none⟩))), (10, (.int .i64 ((n2 - 16 : Nat) : Int))), (11, (.pointer (some ⟨g7, 0, none⟩)))] (sc rfl (sc rfl (sc rfl (sc rfl (sc rfl sn))))) ?_
  refine T_he [0, 1, 2, 3, 4] [.blk g7 27 ((atag key nonce aad (List.take (n2 - 16) cs)).map b8), .blk g2 38 (nonce.map b8), .blk g1 22 (key.map b8), .rd A1 1 n1 c1 (aad.map b8), .rd A2 1 n2 c2 (cs.map b8)] ⟨by decide, rfl⟩ ?_
  refine T_seq ?_
  refine T_regD [.blk g7 27 ((atag key nonce aad (List.take (n2 - 16) cs)).map b8), .blk g2 38 (nonce.map b8), .blk g1 22 (key.map b8), .rd A1 1 n1 c1 (aad.map b8), .rd A2 1 n2 c2 (cs.map b8)] 6 6 #[false, false, false, false, false, false] hF kr kr ?_
  refine D_pure (i := 0) [0, 1, 2, 3, 4] rfl kr rfl (pr_sla (l := 0) (u := 16) (m := 0) sd sd sd rfl Try.underlying27 (z := 1) kr rfl rfl rfl rfl) (.inr rfl) rfl rfl ?_
  refine D_pure (i := 1) [0, 1, 2, 3, 4] rfl kr rfl (pr_move rfl rfl) (.inr rfl) rfl rfl ?_
  refine D_pure (i := 2) [0, 1, 2, 3, 4] rfl kr rfl (pr_move rfl rfl) (.inr rfl) rfl rfl ?_
  refine D_one 3 _ rfl kr rfl (op_slice_rd (l := n2 - 16) (u := n2) 4 rfl sd sd Try.underlying25 kr rfl rfl ⟨_, rfl⟩ rfl rfl rfl (fun B19 => ?_))
  refine T_as 0 _ (.rd B19 1 (n2 - (n2 - 16)) (c2 - (n2 - 16)) ((List.drop (n2 - 16) cs).map b8)) rfl (by congr 1; first | rfl | (rw [List.take_of_length_le (by simp; omega)]; simp)) ?_
  refine T_as 0 _ (.rd B19 1 16 (c2 - (n2 - 16)) ((List.drop (n2 - 16) cs).map b8)) rfl (by rw [show n2 - (n2 - 16) = 16 by omega]) ?_
  refine T_slot 36 (.slice B19 (n2 - (n2 - 16)) (c2 - (n2 - 16))) (.slice B19 16 (c2 - (n2 - 16))) rfl (by rw [show n2 - (n2 - 16) = 16 by omega]) ?_
  refine D_on [1, 2, 3, 4, 5] rfl ?_
  refine D_one 4 _ rfl kr rfl (op_cn (fun w hw => ctequal_f (atag key nonce aad (List.take (n2 - 16) cs)) (some ⟨g7, 0, none⟩) 16 16 (List.drop (n2 - 16) cs) B19 (c2 - (n2 - 16)) w (hok_cons ((src_full (z := 1) 1 rfl sd sd sd) w hw) (hok_cons ((src_rd 0 rfl) w hw) (hok_nil w))) sd sd sd) (enters_of Try.func47 kr rfl) rfl rfl rfl rfl rfl (fun t20 q21 => ?_))
  refine D_on [1, 2, 3, 4, 5] rfl ?_
  refine D_pure (i := 5) [1, 2, 3, 4, 5] rfl kr rfl (pr_cmp (bo := .eql) (n64_beq (eqw (atag key nonce aad (List.take (n2 - 16) cs)) (List.drop (n2 - 16) cs)) (0#64)) rfl rfl rfl rfl) (.inr rfl) rfl rfl ?_
  refine D_done kr ?_
  refine T_cond_yes (t := ((eqw (atag key nonce aad (List.take (n2 - 16) cs)) (List.drop (n2 - 16) cs)) == 0#64)) rfl (eqw_no (fun e => hg ((agood_iff key nonce aad cs n2 h2).2 e))) ?_
  refine Tsr hF rfl ?_
  refine la rfl rfl rfl rfl rfl ?_
  refine la rfl rfl rfl rfl rfl ?_
  refine L_nil ?_
  refine T_ret ?_
  exact T_fin () (by first | trivial | omega | (simp; done)) (res2 rfl rfl rfl) [] ⟨by decide, rfl⟩ rfl
set_option maxRecDepth 100000 in
set_option maxHeartbeats 4000000 in
theorem open_short_f (key : List (BitVec 8)) (nonce : List (BitVec 8)) (aad : List (BitVec 8)) (cs : List (BitVec 8)) (A1 : Option Addr) (n1 : Nat) (c1 : Nat) (A2 : Option Addr) (n2 : Nat) (c2 : Nat) (w : World) (hO : HOK [.rd A1 1 n1 c1 (aad.map b8), .rd A2 1 n2 c2 (cs.map b8)] w) (hk : key.length = 32) (hn : nonce.length = 12) (h1 : aad.length = n1) (h2 : cs.length = n2) (h3 : n1 ≤ 65536) (h4 : n2 < 16) : Calls Try.prog 27 [(.agg (key.map b8).toArray), (.agg (nonce.map b8).toArray), (.slice A1 n1 c1), (.slice A2 n2 c2)].toArray w (Ret (T := Unit) [] w (fun _ => True) (fun _ => (.tuple [(.slice none 0 0), (.int .i64 ((3 : Nat) : Int))].toArray)) (fun _ => [])) := by
 have hF : Wid Fence.wide := wid_wide
 refine enter (c := _) Try.func27 rfl [] [(.agg (key.map b8).toArray), (.agg (nonce.map b8).toArray), (.slice A1 n1 c1), (.slice A2 n2 c2)] [.rd A1 1 n1 c1 (aad.map b8), .rd A2 1 n2 c2 (cs.map b8)] (by rw [Try.ntmps27]; rfl) (own_rds hO rfl) ?_
 rw [Try.ntmps27]
 refine T_re [(0, (.agg (key.map b8).toArray)), (1, (.agg (nonce.map b8).toArray)), (2, (.slice A1 n1 c1)), (3, (.slice A2 n2 c2))] (sc rfl (sc rfl (sc rfl (sc rfl sn)))) ?_
 refine T_he [0, 1] [.rd A1 1 n1 c1 (aad.map b8), .rd A2 1 n2 c2 (cs.map b8)] ⟨by decide, rfl⟩ ?_
 refine Tsr hF rfl ?_
 refine L_op rfl (op_box (zs := (key.map b8)) rfl rfl rfl rfl rfl (fun g1 => ?_))
 refine L_op rfl (op_box (zs := (nonce.map b8)) rfl rfl rfl rfl rfl (fun g2 => ?_))
 refine la rfl rfl rfl rfl rfl ?_
 refine la rfl rfl rfl rfl rfl ?_
 refine L_nil ?_
 refine Tsr hF rfl ?_
 refine lm rfl rfl rfl rfl rfl ?_
 refine lo rfl (pr_len_sl Try.underlying25 rfl rfl) rfl rfl ?_
 refine lo rfl (pr_sub (zw_i64 (z := (((n2 : Nat) : Int) - ((16 : Nat) : Int))) sd) rfl rfl rfl) rfl rfl ?_
 refine la rfl rfl rfl rfl rfl ?_
 refine L_nil ?_
 refine T_seq ?_
 refine T_block ?_
 refine Tsr hF rfl ?_
 refine lm rfl rfl rfl rfl rfl ?_
 refine lo rfl (pr_len_sl Try.underlying25 rfl rfl) rfl rfl ?_
 refine lo rfl (pr_cmp (bo := .gtr) (nc_lt (a := 65536) (b := n1)) rfl rfl rfl rfl) rfl rfl ?_
 refine lm rfl rfl rfl rfl rfl ?_
 refine T_slot 19 (.bool (decide (65536 < n1))) (.bool false) rfl (congrArg _ (by simp; omega)) ?_
 refine lm rfl rfl rfl rfl rfl ?_
 refine lo rfl (pr_cmp (bo := .gtr) (k := .i64) (a := (((n2 : Nat) : Int) - ((16 : Nat) : Int))) (b := ((65536 : Nat) : Int)) (c := decide (((65536 : Nat) : Int) < (((n2 : Nat) : Int) - ((16 : Nat) : Int)))) rfl rfl rfl rfl rfl) rfl rfl ?_
 refine lo rfl (pr_pick_f rfl rfl rfl) rfl rfl ?_
 refine la rfl rfl rfl rfl rfl ?_
 refine L_nil ?_
 refine T_cond_no (t := decide (((65536 : Nat) : Int) < (((n2 : Nat) : Int) - ((16 : Nat) : Int)))) rfl (by simp; omega) ?_
 refine Tsr hF rfl ?_
 refine lm rfl rfl rfl rfl rfl ?_
 refine lo rfl (pr_cmp (bo := .lss) (k := .i64) (a := (((n2 : Nat) : Int) - ((16 : Nat) : Int))) (b := ((0 : Nat) : Int)) (c := decide ((((n2 : Nat) : Int) - ((16 : Nat) : Int)) < ((0 : Nat) : Int))) rfl rfl rfl rfl rfl) rfl rfl ?_
 refine la rfl rfl rfl rfl rfl ?_
 refine L_nil ?_
 refine T_cond_yes (t := decide ((((n2 : Nat) : Int) - ((16 : Nat) : Int)) < ((0 : Nat) : Int))) rfl (by simp; omega) ?_
 refine Tsr hF rfl ?_
 refine la rfl rfl rfl rfl rfl ?_
 refine la rfl rfl rfl rfl rfl ?_
 refine L_nil ?_
 refine T_ret ?_
 exact T_fin () (by first | trivial | omega | (simp; done)) (res2 rfl rfl rfl) [] ⟨by decide, rfl⟩ rfl
set_option maxRecDepth 100000 in
set_option maxHeartbeats 4000000 in
theorem open_la_f (key : List (BitVec 8)) (nonce : List (BitVec 8)) (aad : List (BitVec 8)) (cs : List (BitVec 8)) (A1 : Option Addr) (n1 : Nat) (c1 : Nat) (A2 : Option Addr) (n2 : Nat) (c2 : Nat) (w : World) (hO : HOK [.rd A1 1 n1 c1 (aad.map b8), .rd A2 1 n2 c2 (cs.map b8)] w) (hk : key.length = 32) (hn : nonce.length = 12) (h1 : aad.length = n1) (h2 : cs.length = n2) (h3 : 65536 < n1) : Calls Try.prog 27 [(.agg (key.map b8).toArray), (.agg (nonce.map b8).toArray), (.slice A1 n1 c1), (.slice A2 n2 c2)].toArray w (Ret (T := Unit) [] w (fun _ => True) (fun _ => (.tuple [(.slice none 0 0), (.int .i64 ((5 : Nat) : Int))].toArray)) (fun _ => [])) := by
 have hle2 : n2 ≤ 9223372036854775807 := by have h9 := (hO (.rd A2 1 n2 c2 (cs.map b8)) (by simp)).1; exact Nat.le_trans h9.le h9.most
 have hF : Wid Fence.wide := wid_wide
 refine enter (c := _) Try.func27 rfl [] [(.agg (key.map b8).toArray), (.agg (nonce.map b8).toArray), (.slice A1 n1 c1), (.slice A2 n2 c2)] [.rd A1 1 n1 c1 (aad.map b8), .rd A2 1 n2 c2 (cs.map b8)] (by rw [Try.ntmps27]; rfl) (own_rds hO rfl) ?_
 rw [Try.ntmps27]
 refine T_re [(0, (.agg (key.map b8).toArray)), (1, (.agg (nonce.map b8).toArray)), (2, (.slice A1 n1 c1)), (3, (.slice A2 n2 c2))] (sc rfl (sc rfl (sc rfl (sc rfl sn)))) ?_
 refine T_he [0, 1] [.rd A1 1 n1 c1 (aad.map b8), .rd A2 1 n2 c2 (cs.map b8)] ⟨by decide, rfl⟩ ?_
 refine Tsr hF rfl ?_
 refine L_op rfl (op_box (zs := (key.map b8)) rfl rfl rfl rfl rfl (fun g1 => ?_))
 refine L_op rfl (op_box (zs := (nonce.map b8)) rfl rfl rfl rfl rfl (fun g2 => ?_))
 refine la rfl rfl rfl rfl rfl ?_
 refine la rfl rfl rfl rfl rfl ?_
 refine L_nil ?_
 refine Tsr hF rfl ?_
 refine lm rfl rfl rfl rfl rfl ?_
 refine lo rfl (pr_len_sl Try.underlying25 rfl rfl) rfl rfl ?_
 refine lo rfl (pr_sub (zw_i64 (z := (((n2 : Nat) : Int) - ((16 : Nat) : Int))) sd) rfl rfl rfl) rfl rfl ?_
 refine la rfl rfl rfl rfl rfl ?_
 refine L_nil ?_
 refine T_seq ?_
 refine T_block ?_
 refine Tsr hF rfl ?_
 refine lm rfl rfl rfl rfl rfl ?_
 refine lo rfl (pr_len_sl Try.underlying25 rfl rfl) rfl rfl ?_
 refine lo rfl (pr_cmp (bo := .gtr) (nc_lt (a := 65536) (b := n1)) rfl rfl rfl rfl) rfl rfl ?_
 refine lm rfl rfl rfl rfl rfl ?_
 refine T_slot 19 (.bool (decide (65536 < n1))) (.bool true) rfl (congrArg _ (by simp; omega)) ?_
 refine L_skip rfl rfl rfl ?_
 refine L_skip rfl rfl rfl ?_
 refine lo rfl (pr_pick_t rfl rfl rfl) rfl rfl ?_
 refine la rfl rfl rfl rfl rfl ?_
 refine L_nil ?_
 refine T_cond_t rfl ?_
 refine Tsr hF rfl ?_
 refine la rfl rfl rfl rfl rfl ?_
 refine la rfl rfl rfl rfl rfl ?_
 refine L_nil ?_
 refine T_ret ?_
 exact T_fin () (by first | trivial | omega | (simp; done)) (res2 rfl rfl rfl) [] ⟨by decide, rfl⟩ rfl
set_option maxRecDepth 100000 in
set_option maxHeartbeats 4000000 in
theorem open_lp_f (key : List (BitVec 8)) (nonce : List (BitVec 8)) (aad : List (BitVec 8)) (cs : List (BitVec 8)) (A1 : Option Addr) (n1 : Nat) (c1 : Nat) (A2 : Option Addr) (n2 : Nat) (c2 : Nat) (w : World) (hO : HOK [.rd A1 1 n1 c1 (aad.map b8), .rd A2 1 n2 c2 (cs.map b8)] w) (hk : key.length = 32) (hn : nonce.length = 12) (h1 : aad.length = n1) (h2 : cs.length = n2) (h3 : n1 ≤ 65536) (h4 : 65552 < n2) : Calls Try.prog 27 [(.agg (key.map b8).toArray), (.agg (nonce.map b8).toArray), (.slice A1 n1 c1), (.slice A2 n2 c2)].toArray w (Ret (T := Unit) [] w (fun _ => True) (fun _ => (.tuple [(.slice none 0 0), (.int .i64 ((5 : Nat) : Int))].toArray)) (fun _ => [])) := by
 have hle2 : n2 ≤ 9223372036854775807 := by have h9 := (hO (.rd A2 1 n2 c2 (cs.map b8)) (by simp)).1; exact Nat.le_trans h9.le h9.most
 have hF : Wid Fence.wide := wid_wide
 refine enter (c := _) Try.func27 rfl [] [(.agg (key.map b8).toArray), (.agg (nonce.map b8).toArray), (.slice A1 n1 c1), (.slice A2 n2 c2)] [.rd A1 1 n1 c1 (aad.map b8), .rd A2 1 n2 c2 (cs.map b8)] (by rw [Try.ntmps27]; rfl) (own_rds hO rfl) ?_
 rw [Try.ntmps27]
 refine T_re [(0, (.agg (key.map b8).toArray)), (1, (.agg (nonce.map b8).toArray)), (2, (.slice A1 n1 c1)), (3, (.slice A2 n2 c2))] (sc rfl (sc rfl (sc rfl (sc rfl sn)))) ?_
 refine T_he [0, 1] [.rd A1 1 n1 c1 (aad.map b8), .rd A2 1 n2 c2 (cs.map b8)] ⟨by decide, rfl⟩ ?_
 refine Tsr hF rfl ?_
 refine L_op rfl (op_box (zs := (key.map b8)) rfl rfl rfl rfl rfl (fun g1 => ?_))
 refine L_op rfl (op_box (zs := (nonce.map b8)) rfl rfl rfl rfl rfl (fun g2 => ?_))
 refine la rfl rfl rfl rfl rfl ?_
 refine la rfl rfl rfl rfl rfl ?_
 refine L_nil ?_
 refine Tsr hF rfl ?_
 refine lm rfl rfl rfl rfl rfl ?_
 refine lo rfl (pr_len_sl Try.underlying25 rfl rfl) rfl rfl ?_
 refine lo rfl (pr_sub (ns_i64 (a := n2) (b := 16) sd sd) rfl rfl rfl) rfl rfl ?_
 refine la rfl rfl rfl rfl rfl ?_
 refine L_nil ?_
 refine T_seq ?_
 refine T_block ?_
 refine Tsr hF rfl ?_
 refine lm rfl rfl rfl rfl rfl ?_
 refine lo rfl (pr_len_sl Try.underlying25 rfl rfl) rfl rfl ?_
 refine lo rfl (pr_cmp (bo := .gtr) (nc_lt (a := 65536) (b := n1)) rfl rfl rfl rfl) rfl rfl ?_
 refine lm rfl rfl rfl rfl rfl ?_
 refine T_slot 19 (.bool (decide (65536 < n1))) (.bool false) rfl (congrArg _ (by simp; omega)) ?_
 refine lm rfl rfl rfl rfl rfl ?_
 refine lo rfl (pr_cmp (bo := .gtr) (nc_lt (a := 65536) (b := n2 - 16)) rfl rfl rfl rfl) rfl rfl ?_
 refine lo rfl (pr_pick_f rfl rfl rfl) rfl rfl ?_
 refine la rfl rfl rfl rfl rfl ?_
 refine L_nil ?_
 refine T_cond_yes (t := decide (65536 < n2 - 16)) rfl (by simp; omega) ?_
 refine Tsr hF rfl ?_
 refine la rfl rfl rfl rfl rfl ?_
 refine la rfl rfl rfl rfl rfl ?_
 refine L_nil ?_
 refine T_ret ?_
 exact T_fin () (by first | trivial | omega | (simp; done)) (res2 rfl rfl rfl) [] ⟨by decide, rfl⟩ rfl
set_option maxRecDepth 100000 in
set_option maxHeartbeats 4000000 in
theorem ropen_ok_f (key : List (BitVec 8)) (nonce : List (BitVec 8)) (aad : List (BitVec 8)) (cs : List (BitVec 8)) (A1 : Option Addr) (n1 : Nat) (c1 : Nat) (A2 : Option Addr) (n2 : Nat) (c2 : Nat) (w : World) (hO : HOK [.rd A1 1 n1 c1 (aad.map b8), .rd A2 1 n2 c2 (cs.map b8)] w) (hk : key.length = 32) (hn : nonce.length = 12) (h1 : aad.length = n1) (h2 : cs.length = n2) (h3 : n1 ≤ 65536) (h4 : 16 ≤ n2) (h5 : n2 ≤ 65552) (hg : agood key nonce aad cs) : Calls Try.prog 28 [(.agg (key.map b8).toArray), (.agg (nonce.map b8).toArray), (.slice A1 n1 c1), (.slice A2 n2 c2)].toArray w (Ret (T := Option Addr × Nat) [] w (fun ⟨B, d⟩ => True) (fun ⟨B, d⟩ => (.tuple [(.slice B (n2 - 16) d), (.int .i64 ((0 : Nat) : Int))].toArray)) (fun ⟨B, d⟩ => [.row (.slice B (n2 - 16) d) 5 1 (n2 - 16) ((aplain key nonce cs).map b8)])) := by
 have htl := atag_len key nonce aad (List.take (n2 - 16) cs)
 have hcl := cxor_len key nonce 1#32 (List.take (n2 - 16) cs)
 have hF : Wid Fence.wide := wid_wide
 refine enter (c := _) Try.func28 rfl [] [(.agg (key.map b8).toArray), (.agg (nonce.map b8).toArray), (.slice A1 n1 c1), (.slice A2 n2 c2)] [.rd A1 1 n1 c1 (aad.map b8), .rd A2 1 n2 c2 (cs.map b8)] (by rw [Try.ntmps28]; rfl) (own_rds hO rfl) ?_
 rw [Try.ntmps28]
 refine T_re [(0, (.agg (key.map b8).toArray)), (1, (.agg (nonce.map b8).toArray)), (2, (.slice A1 n1 c1)), (3, (.slice A2 n2 c2))] (sc rfl (sc rfl (sc rfl (sc rfl sn)))) ?_
 refine T_he [0, 1] [.rd A1 1 n1 c1 (aad.map b8), .rd A2 1 n2 c2 (cs.map b8)] ⟨by decide, rfl⟩ ?_
 refine Tsr hF rfl ?_
 refine L_op rfl (op_box (zs := (key.map b8)) rfl rfl rfl rfl rfl (fun g1 => ?_))
 refine L_op rfl (op_box (zs := (nonce.map b8)) rfl rfl rfl rfl rfl (fun g2 => ?_))
 refine la rfl rfl rfl rfl rfl ?_
 refine la rfl rfl rfl rfl rfl ?_
 refine L_nil ?_
 refine Tsr hF rfl ?_
 refine lm rfl rfl rfl rfl rfl ?_
 refine lo rfl (pr_len_sl Try.underlying25 rfl rfl) rfl rfl ?_
 refine lo rfl (pr_sub (ns_i64 (a := n2) (b := 16) sd sd) rfl rfl rfl) rfl rfl ?_
 refine la rfl rfl rfl rfl rfl ?_
 refine L_nil ?_
 refine T_seq ?_
 refine T_block ?_
 refine Tsr hF rfl ?_
 refine lm rfl rfl rfl rfl rfl ?_
 refine lo rfl (pr_len_sl Try.underlying25 rfl rfl) rfl rfl ?_
 refine lo rfl (pr_cmp (bo := .gtr) (nc_lt (a := 65536) (b := n1)) rfl rfl rfl rfl) rfl rfl ?_
 refine lm rfl rfl rfl rfl rfl ?_
 refine T_slot 19 (.bool (decide (65536 < n1))) (.bool false) rfl (congrArg _ (by simp; omega)) ?_
 refine lm rfl rfl rfl rfl rfl ?_
 refine lo rfl (pr_cmp (bo := .gtr) (nc_lt (a := 65536) (b := n2 - 16)) rfl rfl rfl rfl) rfl rfl ?_
 refine lo rfl (pr_pick_f rfl rfl rfl) rfl rfl ?_
 refine la rfl rfl rfl rfl rfl ?_
 refine L_nil ?_
 refine T_cond_no (t := decide (65536 < n2 - 16)) rfl (by simp; omega) ?_
 refine Tsr hF rfl ?_
 refine lm rfl rfl rfl rfl rfl ?_
 refine lo rfl (pr_cmp (bo := .lss) (nc_lt (a := n2 - 16) (b := 0)) rfl rfl rfl rfl) rfl rfl ?_
 refine la rfl rfl rfl rfl rfl ?_
 refine L_nil ?_
 refine T_cond_f rfl ?_
 refine T_skip ?_
 refine T_seq ?_
 refine T_regD [.blk g2 38 (nonce.map b8), .blk g1 22 (key.map b8), .rd A1 1 n1 c1 (aad.map b8), .rd A2 1 n2 c2 (cs.map b8)] 9 9 #[false, false, false, false, false, false, false, false, false] hF kr kr ?_
 refine D_pure (i := 2) [0, 1, 2, 3] rfl kr rfl (pr_move rfl rfl) (.inr rfl) rfl rfl ?_
 refine D_pure (i := 3) [0, 1, 2, 3] rfl kr rfl (pr_move rfl rfl) (.inr rfl) rfl rfl ?_
 refine D_pure (i := 4) [0, 1, 2, 3] rfl kr rfl (pr_move rfl rfl) (.inr rfl) rfl rfl ?_
 refine D_take (i := 0) [0, 1, 2, 3] rfl kr rfl (ld_agg (ds := (key.map b8)) 1 rfl agg_all Try.underlying22 rfl (fwz (n := 32) kr sd) rfl rfl) rfl rfl rfl ?_
 refine D_take (i := 1) [0, 1, 2, 3] rfl kr rfl (ld_agg (ds := (nonce.map b8)) 0 rfl agg_all Try.underlying38 rfl (fwz (n := 12) kr sd) rfl rfl) rfl rfl rfl ?_
 refine D_join (T := Nat) (fun _ => True) (fun g7 => [(3, (.slice A2 n2 c2)), (4, (.pointer (some ⟨g1, 0, none⟩))), (5, (.pointer (some ⟨g2, 0, none⟩))), (10, (.int .i64 ((n2 - 16 : Nat) : Int))), (11, (.pointer (some ⟨g7, 0, none⟩)))]) (fun g7 => [.blk g7 27 ((atag key nonce aad (List.take (n2 - 16) cs)).map b8), .blk g2 38 (nonce.map b8), .blk g1 22 (key.map b8), .rd A1 1 n1 c1 (aad.map b8), .rd A2 1 n2 c2 (cs.map b8)]) ?_ ?_
 ·
  refine D_all [5, 7] kr (by simp) ⟨⟨_, rfl, rfl, ?_⟩, ⟨_, rfl, rfl, ?_⟩, trivial⟩
  ·
   refine id (op_slice_rd (l := 0) (u := n2 - 16) 3 rfl sd sd Try.underlying25 kr rfl rfl rfl ⟨_, rfl⟩ rfl rfl (fun B8 => ?_))
   refine T_as 0 _ (.rd B8 1 (n2 - 16) c2 ((List.take (n2 - 16) cs).map b8)) rfl (by congr 1; simp [List.map_take, List.map_drop] <;> omega) ?_
   refine T_slot 31 _ (.slice B8 (n2 - 16) c2) rfl (by congr 1) ?_
   refine D_on [1, 2, 3, 4] rfl ?_
   refine D_all [6, 7] kr (by simp) ⟨⟨_, rfl, rfl, ?_⟩, ⟨_, rfl, rfl, ?_⟩, trivial⟩
   ·
    refine id (op_cn (fun w hw => ratag_f key nonce aad (List.take (n2 - 16) cs) A1 n1 c1 B8 (n2 - 16) c2 w (hok_cons ((src_rd 3 rfl) w hw) (hok_cons ((src_rd 0 rfl) w hw) (hok_nil w))) (by first | assumption | exact sd) (by first | assumption | exact sd) (by first | assumption | exact sd) (by first | assumption | exact sd) sd sd) (enters_of Try.func46 kr rfl) rfl rfl rfl rfl rfl (fun t9 q10 => ?_))
    refine D_on [1, 2, 3, 4] rfl ?_
    refine D_one 7 _ rfl kr rfl (op_alloc (z := .agg ((List.replicate 16 0#8).map b8).toArray) (zs := ((List.replicate 16 0#8).map b8)) kr rfl rfl rfl rfl (fun g11 => ?_))
    refine D_on [2, 3, 4, 5] rfl ?_
    refine D_one 8 _ rfl kr rfl (op_sto (n := 16) (vs := ((atag key nonce aad (List.take (n2 - 16) cs)).map b8)) 0 rfl rfl kr (all8_one _) kr sd rfl rfl rfl rfl ?_)
    refine D_on [2, 3, 4, 5] rfl ?_
    refine D_done kr ?_
    exact T_meet g11 trivial (sc rfl (sc rfl (sc rfl (sc rfl (sc rfl sn))))) [0, 2, 3, 4, 5] ⟨by decide, rfl⟩
   ·
    refine id (op_alloc (z := .agg ((List.replicate 16 0#8).map b8).toArray) (zs := ((List.replicate 16 0#8).map b8)) kr rfl rfl rfl rfl (fun g12 => ?_))
    refine D_on [2, 3, 4, 5] rfl ?_
    refine D_one 6 _ rfl kr rfl (op_cn (fun w hw => ratag_f key nonce aad (List.take (n2 - 16) cs) A1 n1 c1 B8 (n2 - 16) c2 w (hok_cons ((src_rd 4 rfl) w hw) (hok_cons ((src_rd 1 rfl) w hw) (hok_nil w))) (by first | assumption | exact sd) (by first | assumption | exact sd) (by first | assumption | exact sd) (by first | assumption | exact sd) sd sd) (enters_of Try.func46 kr rfl) rfl rfl rfl rfl rfl (fun t13 q14 => ?_))
    refine D_on [2, 3, 4, 5] rfl ?_
    refine D_one 8 _ rfl kr rfl (op_sto (n := 16) (vs := ((atag key nonce aad (List.take (n2 - 16) cs)).map b8)) 0 rfl rfl kr (all8_one _) kr sd rfl rfl rfl rfl ?_)
    refine D_on [2, 3, 4, 5] rfl ?_
    refine D_done kr ?_
    exact T_meet g12 trivial (sc rfl (sc rfl (sc rfl (sc rfl (sc rfl sn))))) [0, 2, 3, 4, 5] ⟨by decide, rfl⟩
  ·
   refine id (op_alloc (z := .agg ((List.replicate 16 0#8).map b8).toArray) (zs := ((List.replicate 16 0#8).map b8)) kr rfl rfl rfl rfl (fun g15 => ?_))
   refine D_on [1, 2, 3, 4] rfl ?_
   refine D_one 5 _ rfl kr rfl (op_slice_rd (l := 0) (u := n2 - 16) 4 rfl sd sd Try.underlying25 kr rfl rfl rfl ⟨_, rfl⟩ rfl rfl (fun B16 => ?_))
   refine T_as 0 _ (.rd B16 1 (n2 - 16) c2 ((List.take (n2 - 16) cs).map b8)) rfl (by congr 1; simp [List.map_take, List.map_drop] <;> omega) ?_
   refine T_slot 31 _ (.slice B16 (n2 - 16) c2) rfl (by congr 1) ?_
   refine D_on [2, 3, 4, 5] rfl ?_
   refine D_one 6 _ rfl kr rfl (op_cn (fun w hw => ratag_f key nonce aad (List.take (n2 - 16) cs) A1 n1 c1 B16 (n2 - 16) c2 w (hok_cons ((src_rd 4 rfl) w hw) (hok_cons ((src_rd 0 rfl) w hw) (hok_nil w))) (by first | assumption | exact sd) (by first | assumption | exact sd) (by first | assumption | exact sd) (by first | assumption | exact sd) sd sd) (enters_of Try.func46 kr rfl) rfl rfl rfl rfl rfl (fun t17 q18 => ?_))
   refine D_on [2, 3, 4, 5] rfl ?_
   refine D_one 8 _ rfl kr rfl (op_sto (n := 16) (vs := ((atag key nonce aad (List.take (n2 - 16) cs)).map b8)) 1 rfl rfl kr (all8_one _) kr sd rfl rfl rfl rfl ?_)
   refine D_on [2, 3, 4, 5] rfl ?_
   refine D_done kr ?_
   exact T_meet g15 trivial (sc rfl (sc rfl (sc rfl (sc rfl (sc rfl sn))))) [0, 2, 3, 4, 5] ⟨by decide, rfl⟩
 ·
  rintro g7 -
  refine T_re [(3, (.slice A2 n2 c2)), (4, (.pointer (some ⟨g1, 0, none⟩))), (5, (.pointer (some ⟨g2, 0, none⟩))), (10, (.int .i64 ((n2 - 16 : Nat) : Int))), (11, (.pointer (some ⟨g7, 0, none⟩)))] (sc rfl (sc rfl (sc rfl (sc rfl (sc rfl sn))))) ?_
  refine T_he [0, 1, 2, 3, 4] [.blk g7 27 ((atag key nonce aad (List.take (n2 - 16) cs)).map b8), .blk g2 38 (nonce.map b8), .blk g1 22 (key.map b8), .rd A1 1 n1 c1 (aad.map b8), .rd A2 1 n2 c2 (cs.map b8)] ⟨by decide, rfl⟩ ?_
  refine T_seq ?_
  refine T_seq ?_
  refine T_regD [.blk g7 27 ((atag key nonce aad (List.take (n2 - 16) cs)).map b8), .blk g2 38 (nonce.map b8), .blk g1 22 (key.map b8), .rd A1 1 n1 c1 (aad.map b8), .rd A2 1 n2 c2 (cs.map b8)] 7 7 #[false, false, false, false, false, false, false] hF kr kr ?_
  refine D_pure (i := 0) [0, 1, 2, 3, 4] rfl kr rfl (pr_sla (l := 0) (u := 16) (m := 0) sd sd sd rfl Try.underlying27 (z := 1) kr rfl rfl rfl rfl) (.inr rfl) rfl rfl ?_
  refine D_pure (i := 2) [0, 1, 2, 3, 4] rfl kr rfl (pr_move rfl rfl) (.inr rfl) rfl rfl ?_
  refine D_pure (i := 3) [0, 1, 2, 3, 4] rfl kr rfl (pr_move rfl rfl) (.inr rfl) rfl rfl ?_
  refine D_take (i := 1) [0, 1, 2, 3, 4] rfl kr rfl (ld_str (xs := (atag key nonce aad (List.take (n2 - 16) cs))) (src_full (z := 1) 0 rfl sd sd sd) Try.underlying25 Try.underlying5 Try.underlying9 rfl rfl) rfl rfl rfl ?_
  refine D_one 4 _ rfl kr rfl (op_slice_rd (l := n2 - 16) (u := n2) 4 rfl sd sd Try.underlying25 kr rfl rfl ⟨_, rfl⟩ rfl rfl rfl (fun B19 => ?_))
  refine T_as 0 _ (.rd B19 1 (n2 - (n2 - 16)) (c2 - (n2 - 16)) ((List.drop (n2 - 16) cs).map b8)) rfl (by congr 1; first | rfl | (rw [List.take_of_length_le (by simp; omega)]; simp)) ?_
  refine T_as 0 _ (.rd B19 1 16 (c2 - (n2 - 16)) ((List.drop (n2 - 16) cs).map b8)) rfl (by rw [show n2 - (n2 - 16) = 16 by omega]) ?_
  refine T_slot 37 (.slice B19 (n2 - (n2 - 16)) (c2 - (n2 - 16))) (.slice B19 16 (c2 - (n2 - 16))) rfl (by rw [show n2 - (n2 - 16) = 16 by omega]) ?_
  refine D_on [1, 2, 3, 4, 5] rfl ?_
  refine D_one 5 _ rfl kr rfl (op_ld (ld_str (xs := (List.drop (n2 - 16) cs)) (src_rd 0 rfl) Try.underlying25 Try.underlying5 Try.underlying9 rfl rfl) rfl rfl ?_)
  refine D_on [1, 2, 3, 4, 5] rfl ?_
  refine D_pure (i := 6) [1, 2, 3, 4, 5] rfl kr rfl (pr_strne rfl rfl rfl) (.inr rfl) rfl rfl ?_
  refine D_done kr ?_
  refine T_cond_no (t := !decide ((atag key nonce aad (List.take (n2 - 16) cs)) = (List.drop (n2 - 16) cs))) rfl (by rw [(agood_iff key nonce aad cs n2 h2).1 hg]; simp) ?_
  refine T_skip ?_
  refine T_seq ?_
  refine T_regD [.rd B19 1 16 (c2 - (n2 - 16)) ((List.drop (n2 - 16) cs).map b8), .blk g7 27 ((atag key nonce aad (List.take (n2 - 16) cs)).map b8), .blk g2 38 (nonce.map b8), .blk g1 22 (key.map b8), .rd A1 1 n1 c1 (aad.map b8), .rd A2 1 n2 c2 (cs.map b8)] 8 8 #[false, false, false, false, false, false, false, false] hF kr kr ?_
  refine D_pure (i := 2) [0, 1, 2, 3, 4, 5] rfl kr rfl (pr_move rfl rfl) (.inr rfl) rfl rfl ?_
  refine D_pure (i := 3) [0, 1, 2, 3, 4, 5] rfl kr rfl (pr_move rfl rfl) (.inr rfl) rfl rfl ?_
  refine D_take (i := 0) [0, 1, 2, 3, 4, 5] rfl kr rfl (ld_agg (ds := (key.map b8)) 3 rfl agg_all Try.underlying22 rfl (fwz (n := 32) kr sd) rfl rfl) rfl rfl rfl ?_
  refine D_take (i := 1) [0, 1, 2, 3, 4, 5] rfl kr rfl (ld_agg (ds := (nonce.map b8)) 2 rfl agg_all Try.underlying38 rfl (fwz (n := 12) kr sd) rfl rfl) rfl rfl rfl ?_
  refine D_one 4 _ rfl kr rfl (op_slice_rd (l := 0) (u := n2 - 16) 5 rfl sd sd Try.underlying25 kr rfl rfl rfl ⟨_, rfl⟩ rfl rfl (fun B20 => ?_))
  refine T_as 0 _ (.rd B20 1 (n2 - 16) c2 ((List.take (n2 - 16) cs).map b8)) rfl (by congr 1; simp [List.map_take, List.map_drop] <;> omega) ?_
  refine T_slot 44 _ (.slice B20 (n2 - 16) c2) rfl (by congr 1) ?_
  refine D_on [1, 2, 3, 4, 5, 6] rfl ?_
  refine D_one 5 _ rfl kr rfl (op_cn (fun w hw => rxor_f key nonce (1#32) (List.take (n2 - 16) cs) B20 (n2 - 16) c2 w (hok_cons ((src_rd 0 rfl) w hw) (hok_nil w)) (by first | assumption | exact sd) (by first | assumption | exact sd) (by first | assumption | omega | (simp; done) | (simp; omega)) sd) (enters_of Try.func45 kr rfl) rfl rfl rfl rfl rfl (fun t21 q22 => ?_))
  obtain ⟨B23, d24⟩ := t21
  refine D_on [2, 3, 4, 5, 6, 7] rfl ?_
  refine D_pure (i := 6) [2, 3, 4, 5, 6, 7] rfl kr rfl (pr_assign rfl rfl) (.inr rfl) rfl rfl ?_
  refine D_pure (i := 7) [2, 3, 4, 5, 6, 7] rfl kr rfl (pr_assign rfl rfl) (.inr rfl) rfl rfl ?_
  refine D_done kr ?_
  refine T_ret ?_
  refine T_as 0 _ (.row (.slice B23 (n2 - 16) d24) 5 1 (n2 - 16) ((aplain key nonce cs).map b8)) rfl (by rw [aplain_def key nonce cs n2 h2]) ?_
  exact T_fin (B23, d24) (by first | trivial | omega | (simp; done)) (res2 rfl rfl rfl) [0] ⟨by decide, rfl⟩ rfl
set_option maxRecDepth 100000 in
set_option maxHeartbeats 4000000 in
theorem ropen_bad_f (key : List (BitVec 8)) (nonce : List (BitVec 8)) (aad : List (BitVec 8)) (cs : List (BitVec 8)) (A1 : Option Addr) (n1 : Nat) (c1 : Nat) (A2 : Option Addr) (n2 : Nat) (c2 : Nat) (w : World) (hO : HOK [.rd A1 1 n1 c1 (aad.map b8), .rd A2 1 n2 c2 (cs.map b8)] w) (hk : key.length = 32) (hn : nonce.length = 12) (h1 : aad.length = n1) (h2 : cs.length = n2) (h3 : n1 ≤ 65536) (h4 : 16 ≤ n2) (h5 : n2 ≤ 65552) (hg : ¬ agood key nonce aad cs) : Calls Try.prog 28 [(.agg (key.map b8).toArray), (.agg (nonce.map b8).toArray), (.slice A1 n1 c1), (.slice A2 n2 c2)].toArray w (Ret (T := Unit) [] w (fun _ => True) (fun _ => (.tuple [(.slice none 0 0), (.int .i64 ((6 : Nat) : Int))].toArray)) (fun _ => [])) := by
 have htl := atag_len key nonce aad (List.take (n2 - 16) cs)
 have hcl := cxor_len key nonce 1#32 (List.take (n2 - 16) cs)
 have hF : Wid Fence.wide := wid_wide
 refine enter (c := _) Try.func28 rfl [] [(.agg (key.map b8).toArray), (.agg (nonce.map b8).toArray), (.slice A1 n1 c1), (.slice A2 n2 c2)] [.rd A1 1 n1 c1 (aad.map b8), .rd A2 1 n2 c2 (cs.map b8)] (by rw [Try.ntmps28]; rfl) (own_rds hO rfl) ?_
 rw [Try.ntmps28]
 refine T_re [(0, (.agg (key.map b8).toArray)), (1, (.agg (nonce.map b8).toArray)), (2, (.slice A1 n1 c1)), (3, (.slice A2 n2 c2))] (sc rfl (sc rfl (sc rfl (sc rfl sn)))) ?_
 refine T_he [0, 1] [.rd A1 1 n1 c1 (aad.map b8), .rd A2 1 n2 c2 (cs.map b8)] ⟨by decide, rfl⟩ ?_
 refine Tsr hF rfl ?_
 refine L_op rfl (op_box (zs := (key.map b8)) rfl rfl rfl rfl rfl (fun g1 => ?_))
 refine L_op rfl (op_box (zs := (nonce.map b8)) rfl rfl rfl rfl rfl (fun g2 => ?_))
 refine la rfl rfl rfl rfl rfl ?_
 refine la rfl rfl rfl rfl rfl ?_
 refine L_nil ?_
 refine Tsr hF rfl ?_
 refine lm rfl rfl rfl rfl rfl ?_
 refine lo rfl (pr_len_sl Try.underlying25 rfl rfl) rfl rfl ?_
 refine lo rfl (pr_sub (ns_i64 (a := n2) (b := 16) sd sd) rfl rfl rfl) rfl rfl ?_
 refine la rfl rfl rfl rfl rfl ?_
 refine L_nil ?_
 refine T_seq ?_
 refine T_block ?_
 refine Tsr hF rfl ?_
 refine lm rfl rfl rfl rfl rfl ?_
 refine lo rfl (pr_len_sl Try.underlying25 rfl rfl) rfl rfl ?_
 refine lo rfl (pr_cmp (bo := .gtr) (nc_lt (a := 65536) (b := n1)) rfl rfl rfl rfl) rfl rfl ?_
 refine lm rfl rfl rfl rfl rfl ?_
 refine T_slot 19 (.bool (decide (65536 < n1))) (.bool false) rfl (congrArg _ (by simp; omega)) ?_
 refine lm rfl rfl rfl rfl rfl ?_
 refine lo rfl (pr_cmp (bo := .gtr) (nc_lt (a := 65536) (b := n2 - 16)) rfl rfl rfl rfl) rfl rfl ?_
 refine lo rfl (pr_pick_f rfl rfl rfl) rfl rfl ?_
 refine la rfl rfl rfl rfl rfl ?_
 refine L_nil ?_
 refine T_cond_no (t := decide (65536 < n2 - 16)) rfl (by simp; omega) ?_
 refine Tsr hF rfl ?_
 refine lm rfl rfl rfl rfl rfl ?_
 refine lo rfl (pr_cmp (bo := .lss) (nc_lt (a := n2 - 16) (b := 0)) rfl rfl rfl rfl) rfl rfl ?_
 refine la rfl rfl rfl rfl rfl ?_
 refine L_nil ?_
 refine T_cond_f rfl ?_
 refine T_skip ?_
 refine T_seq ?_
 refine T_regD [.blk g2 38 (nonce.map b8), .blk g1 22 (key.map b8), .rd A1 1 n1 c1 (aad.map b8), .rd A2 1 n2 c2 (cs.map b8)] 9 9 #[false, false, false, false, false, false, false, false, false] hF kr kr ?_
 refine D_pure (i := 2) [0, 1, 2, 3] rfl kr rfl (pr_move rfl rfl) (.inr rfl) rfl rfl ?_
 refine D_pure (i := 3) [0, 1, 2, 3] rfl kr rfl (pr_move rfl rfl) (.inr rfl) rfl rfl ?_
 refine D_pure (i := 4) [0, 1, 2, 3] rfl kr rfl (pr_move rfl rfl) (.inr rfl) rfl rfl ?_
 refine D_take (i := 0) [0, 1, 2, 3] rfl kr rfl (ld_agg (ds := (key.map b8)) 1 rfl agg_all Try.underlying22 rfl (fwz (n := 32) kr sd) rfl rfl) rfl rfl rfl ?_
 refine D_take (i := 1) [0, 1, 2, 3] rfl kr rfl (ld_agg (ds := (nonce.map b8)) 0 rfl agg_all Try.underlying38 rfl (fwz (n := 12) kr sd) rfl rfl) rfl rfl rfl ?_
 refine D_join (T := Nat) (fun _ => True) (fun g7 => [(3, (.slice A2 n2 c2)), (4, (.pointer (some ⟨g1, 0, none⟩))), (5, (.pointer (some ⟨g2, 0, none⟩))), (10, (.int .i64 ((n2 - 16 : Nat) : Int))), (11, (.pointer (some ⟨g7, 0, none⟩)))]) (fun g7 => [.blk g7 27 ((atag key nonce aad (List.take (n2 - 16) cs)).map b8), .blk g2 38 (nonce.map b8), .blk g1 22 (key.map b8), .rd A1 1 n1 c1 (aad.map b8), .rd A2 1 n2 c2 (cs.map b8)]) ?_ ?_
 ·
  refine D_all [5, 7] kr (by simp) ⟨⟨_, rfl, rfl, ?_⟩, ⟨_, rfl, rfl, ?_⟩, trivial⟩
  ·
   refine id (op_slice_rd (l := 0) (u := n2 - 16) 3 rfl sd sd Try.underlying25 kr rfl rfl rfl ⟨_, rfl⟩ rfl rfl (fun B8 => ?_))
   refine T_as 0 _ (.rd B8 1 (n2 - 16) c2 ((List.take (n2 - 16) cs).map b8)) rfl (by congr 1; simp [List.map_take, List.map_drop] <;> omega) ?_
   refine T_slot 31 _ (.slice B8 (n2 - 16) c2) rfl (by congr 1) ?_
   refine D_on [1, 2, 3, 4] rfl ?_
   refine D_all [6, 7] kr (by simp) ⟨⟨_, rfl, rfl, ?_⟩, ⟨_, rfl, rfl, ?_⟩, trivial⟩
   ·
    refine id (op_cn (fun w hw => ratag_f key nonce aad (List.take (n2 - 16) cs) A1 n1 c1 B8 (n2 - 16) c2 w (hok_cons ((src_rd 3 rfl) w hw) (hok_cons ((src_rd 0 rfl) w hw) (hok_nil w))) (by first | assumption | exact sd) (by first | assumption | exact sd) (by first | assumption | exact sd) (by first | assumption | exact sd) sd sd) (enters_of Try.func46 kr rfl) rfl rfl rfl rfl rfl (fun t9 q10 => ?_))
    refine D_on [1, 2, 3, 4] rfl ?_
    refine D_one 7 _ rfl kr rfl (op_alloc (z := .agg ((List.replicate 16 0#8).map b8).toArray) (zs := ((List.replicate 16 0#8).map b8)) kr rfl rfl rfl rfl (fun g11 => ?_))
    refine D_on [2, 3, 4, 5] rfl ?_
    refine D_one 8 _ rfl kr rfl (op_sto (n := 16) (vs := ((atag key nonce aad (List.take (n2 - 16) cs)).map b8)) 0 rfl rfl kr (all8_one _) kr sd rfl rfl rfl rfl ?_)
    refine D_on [2, 3, 4, 5] rfl ?_
    refine D_done kr ?_
    exact T_meet g11 trivial (sc rfl (sc rfl (sc rfl (sc rfl (sc rfl sn))))) [0, 2, 3, 4, 5] ⟨by decide, rfl⟩
   ·
    refine id (op_alloc (z := .agg ((List.replicate 16 0#8).map b8).toArray) (zs := ((List.replicate 16 0#8).map b8)) kr rfl rfl rfl rfl (fun g12 => ?_))
    refine D_on [2, 3, 4, 5] rfl ?_
    refine D_one 6 _ rfl kr rfl (op_cn (fun w hw => ratag_f key nonce aad (List.take (n2 - 16) cs) A1 n1 c1 B8 (n2 - 16) c2 w (hok_cons ((src_rd 4 rfl) w hw) (hok_cons ((src_rd 1 rfl) w hw) (hok_nil w))) (by first | assumption | exact sd) (by first | assumption | exact sd) (by first | assumption | exact sd) (by first | assumption | exact sd) sd sd) (enters_of Try.func46 kr rfl) rfl rfl rfl rfl rfl (fun t13 q14 => ?_))
    refine D_on [2, 3, 4, 5] rfl ?_
    refine D_one 8 _ rfl kr rfl (op_sto (n := 16) (vs := ((atag key nonce aad (List.take (n2 - 16) cs)).map b8)) 0 rfl rfl kr (all8_one _) kr sd rfl rfl rfl rfl ?_)
    refine D_on [2, 3, 4, 5] rfl ?_
    refine D_done kr ?_
    exact T_meet g12 trivial (sc rfl (sc rfl (sc rfl (sc rfl (sc rfl sn))))) [0, 2, 3, 4, 5] ⟨by decide, rfl⟩
  ·
   refine id (op_alloc (z := .agg ((List.replicate 16 0#8).map b8).toArray) (zs := ((List.replicate 16 0#8).map b8)) kr rfl rfl rfl rfl (fun g15 => ?_))
   refine D_on [1, 2, 3, 4] rfl ?_
   refine D_one 5 _ rfl kr rfl (op_slice_rd (l := 0) (u := n2 - 16) 4 rfl sd sd Try.underlying25 kr rfl rfl rfl ⟨_, rfl⟩ rfl rfl (fun B16 => ?_))
   refine T_as 0 _ (.rd B16 1 (n2 - 16) c2 ((List.take (n2 - 16) cs).map b8)) rfl (by congr 1; simp [List.map_take, List.map_drop] <;> omega) ?_
   refine T_slot 31 _ (.slice B16 (n2 - 16) c2) rfl (by congr 1) ?_
   refine D_on [2, 3, 4, 5] rfl ?_
   refine D_one 6 _ rfl kr rfl (op_cn (fun w hw => ratag_f key nonce aad (List.take (n2 - 16) cs) A1 n1 c1 B16 (n2 - 16) c2 w (hok_cons ((src_rd 4 rfl) w hw) (hok_cons ((src_rd 0 rfl) w hw) (hok_nil w))) (by first | assumption | exact sd) (by first | assumption | exact sd) (by first | assumption | exact sd) (by first | assumption | exact sd) sd sd) (enters_of Try.func46 kr rfl) rfl rfl rfl rfl rfl (fun t17 q18 => ?_))
   refine D_on [2, 3, 4, 5] rfl ?_
   refine D_one 8 _ rfl kr rfl (op_sto (n := 16) (vs := ((atag key nonce aad (List.take (n2 - 16) cs)).map b8)) 1 rfl rfl kr (all8_one _) kr sd rfl rfl rfl rfl ?_)
   refine D_on [2, 3, 4, 5] rfl ?_
   refine D_done kr ?_
   exact T_meet g15 trivial (sc rfl (sc rfl (sc rfl (sc rfl (sc rfl sn))))) [0, 2, 3, 4, 5] ⟨by decide, rfl⟩
 ·
  rintro g7 -
  refine T_re [(3, (.slice A2 n2 c2)), (4, (.pointer (some ⟨g1, 0, none⟩))), (5, (.pointer (some ⟨g2, 0, none⟩))), (10, (.int .i64 ((n2 - 16 : Nat) : Int))), (11, (.pointer (some ⟨g7, 0, none⟩)))] (sc rfl (sc rfl (sc rfl (sc rfl (sc rfl sn))))) ?_
  refine T_he [0, 1, 2, 3, 4] [.blk g7 27 ((atag key nonce aad (List.take (n2 - 16) cs)).map b8), .blk g2 38 (nonce.map b8), .blk g1 22 (key.map b8), .rd A1 1 n1 c1 (aad.map b8), .rd A2 1 n2 c2 (cs.map b8)] ⟨by decide, rfl⟩ ?_
  refine T_seq ?_
  refine T_seq ?_
  refine T_regD [.blk g7 27 ((atag key nonce aad (List.take (n2 - 16) cs)).map b8), .blk g2 38 (nonce.map b8), .blk g1 22 (key.map b8), .rd A1 1 n1 c1 (aad.map b8), .rd A2 1 n2 c2 (cs.map b8)] 7 7 #[false, false, false, false, false, false, false] hF kr kr ?_
  refine D_pure (i := 0) [0, 1, 2, 3, 4] rfl kr rfl (pr_sla (l := 0) (u := 16) (m := 0) sd sd sd rfl Try.underlying27 (z := 1) kr rfl rfl rfl rfl) (.inr rfl) rfl rfl ?_
  refine D_pure (i := 2) [0, 1, 2, 3, 4] rfl kr rfl (pr_move rfl rfl) (.inr rfl) rfl rfl ?_
  refine D_pure (i := 3) [0, 1, 2, 3, 4] rfl kr rfl (pr_move rfl rfl) (.inr rfl) rfl rfl ?_
  refine D_take (i := 1) [0, 1, 2, 3, 4] rfl kr rfl (ld_str (xs := (atag key nonce aad (List.take (n2 - 16) cs))) (src_full (z := 1) 0 rfl sd sd sd) Try.underlying25 Try.underlying5 Try.underlying9 rfl rfl) rfl rfl rfl ?_
  refine D_one 4 _ rfl kr rfl (op_slice_rd (l := n2 - 16) (u := n2) 4 rfl sd sd Try.underlying25 kr rfl rfl ⟨_, rfl⟩ rfl rfl rfl (fun B19 => ?_))
  refine T_as 0 _ (.rd B19 1 (n2 - (n2 - 16)) (c2 - (n2 - 16)) ((List.drop (n2 - 16) cs).map b8)) rfl (by congr 1; first | rfl | (rw [List.take_of_length_le (by simp; omega)]; simp)) ?_
  refine T_as 0 _ (.rd B19 1 16 (c2 - (n2 - 16)) ((List.drop (n2 - 16) cs).map b8)) rfl (by rw [show n2 - (n2 - 16) = 16 by omega]) ?_
  refine T_slot 37 (.slice B19 (n2 - (n2 - 16)) (c2 - (n2 - 16))) (.slice B19 16 (c2 - (n2 - 16))) rfl (by rw [show n2 - (n2 - 16) = 16 by omega]) ?_
  refine D_on [1, 2, 3, 4, 5] rfl ?_
  refine D_one 5 _ rfl kr rfl (op_ld (ld_str (xs := (List.drop (n2 - 16) cs)) (src_rd 0 rfl) Try.underlying25 Try.underlying5 Try.underlying9 rfl rfl) rfl rfl ?_)
  refine D_on [1, 2, 3, 4, 5] rfl ?_
  refine D_pure (i := 6) [1, 2, 3, 4, 5] rfl kr rfl (pr_strne rfl rfl rfl) (.inr rfl) rfl rfl ?_
  refine D_done kr ?_
  refine T_cond_yes (t := !decide ((atag key nonce aad (List.take (n2 - 16) cs)) = (List.drop (n2 - 16) cs))) rfl (by simp; exact fun e => hg ((agood_iff key nonce aad cs n2 h2).2 e)) ?_
  refine Tsr hF rfl ?_
  refine la rfl rfl rfl rfl rfl ?_
  refine la rfl rfl rfl rfl rfl ?_
  refine L_nil ?_
  refine T_ret ?_
  exact T_fin () (by first | trivial | omega | (simp; done)) (res2 rfl rfl rfl) [] ⟨by decide, rfl⟩ rfl
set_option maxRecDepth 100000 in
set_option maxHeartbeats 4000000 in
theorem ropen_short_f (key : List (BitVec 8)) (nonce : List (BitVec 8)) (aad : List (BitVec 8)) (cs : List (BitVec 8)) (A1 : Option Addr) (n1 : Nat) (c1 : Nat) (A2 : Option Addr) (n2 : Nat) (c2 : Nat) (w : World) (hO : HOK [.rd A1 1 n1 c1 (aad.map b8), .rd A2 1 n2 c2 (cs.map b8)] w) (hk : key.length = 32) (hn : nonce.length = 12) (h1 : aad.length = n1) (h2 : cs.length = n2) (h3 : n1 ≤ 65536) (h4 : n2 < 16) : Calls Try.prog 28 [(.agg (key.map b8).toArray), (.agg (nonce.map b8).toArray), (.slice A1 n1 c1), (.slice A2 n2 c2)].toArray w (Ret (T := Unit) [] w (fun _ => True) (fun _ => (.tuple [(.slice none 0 0), (.int .i64 ((3 : Nat) : Int))].toArray)) (fun _ => [])) := by
 have hF : Wid Fence.wide := wid_wide
 refine enter (c := _) Try.func28 rfl [] [(.agg (key.map b8).toArray), (.agg (nonce.map b8).toArray), (.slice A1 n1 c1), (.slice A2 n2 c2)] [.rd A1 1 n1 c1 (aad.map b8), .rd A2 1 n2 c2 (cs.map b8)] (by rw [Try.ntmps28]; rfl) (own_rds hO rfl) ?_
 rw [Try.ntmps28]
 refine T_re [(0, (.agg (key.map b8).toArray)), (1, (.agg (nonce.map b8).toArray)), (2, (.slice A1 n1 c1)), (3, (.slice A2 n2 c2))] (sc rfl (sc rfl (sc rfl (sc rfl sn)))) ?_
 refine T_he [0, 1] [.rd A1 1 n1 c1 (aad.map b8), .rd A2 1 n2 c2 (cs.map b8)] ⟨by decide, rfl⟩ ?_
 refine Tsr hF rfl ?_
 refine L_op rfl (op_box (zs := (key.map b8)) rfl rfl rfl rfl rfl (fun g1 => ?_))
 refine L_op rfl (op_box (zs := (nonce.map b8)) rfl rfl rfl rfl rfl (fun g2 => ?_))
 refine la rfl rfl rfl rfl rfl ?_
 refine la rfl rfl rfl rfl rfl ?_
 refine L_nil ?_
 refine Tsr hF rfl ?_
 refine lm rfl rfl rfl rfl rfl ?_
 refine lo rfl (pr_len_sl Try.underlying25 rfl rfl) rfl rfl ?_
 refine lo rfl (pr_sub (zw_i64 (z := (((n2 : Nat) : Int) - ((16 : Nat) : Int))) sd) rfl rfl rfl) rfl rfl ?_
 refine la rfl rfl rfl rfl rfl ?_
 refine L_nil ?_
 refine T_seq ?_
 refine T_block ?_
 refine Tsr hF rfl ?_
 refine lm rfl rfl rfl rfl rfl ?_
 refine lo rfl (pr_len_sl Try.underlying25 rfl rfl) rfl rfl ?_
 refine lo rfl (pr_cmp (bo := .gtr) (nc_lt (a := 65536) (b := n1)) rfl rfl rfl rfl) rfl rfl ?_
 refine lm rfl rfl rfl rfl rfl ?_
 refine T_slot 19 (.bool (decide (65536 < n1))) (.bool false) rfl (congrArg _ (by simp; omega)) ?_
 refine lm rfl rfl rfl rfl rfl ?_
 refine lo rfl (pr_cmp (bo := .gtr) (k := .i64) (a := (((n2 : Nat) : Int) - ((16 : Nat) : Int))) (b := ((65536 : Nat) : Int)) (c := decide (((65536 : Nat) : Int) < (((n2 : Nat) : Int) - ((16 : Nat) : Int)))) rfl rfl rfl rfl rfl) rfl rfl ?_
 refine lo rfl (pr_pick_f rfl rfl rfl) rfl rfl ?_
 refine la rfl rfl rfl rfl rfl ?_
 refine L_nil ?_
 refine T_cond_no (t := decide (((65536 : Nat) : Int) < (((n2 : Nat) : Int) - ((16 : Nat) : Int)))) rfl (by simp; omega) ?_
 refine Tsr hF rfl ?_
 refine lm rfl rfl rfl rfl rfl ?_
 refine lo rfl (pr_cmp (bo := .lss) (k := .i64) (a := (((n2 : Nat) : Int) - ((16 : Nat) : Int))) (b := ((0 : Nat) : Int)) (c := decide ((((n2 : Nat) : Int) - ((16 : Nat) : Int)) < ((0 : Nat) : Int))) rfl rfl rfl rfl rfl) rfl rfl ?_
 refine la rfl rfl rfl rfl rfl ?_
 refine L_nil ?_
 refine T_cond_yes (t := decide ((((n2 : Nat) : Int) - ((16 : Nat) : Int)) < ((0 : Nat) : Int))) rfl (by simp; omega) ?_
 refine Tsr hF rfl ?_
 refine la rfl rfl rfl rfl rfl ?_
 refine la rfl rfl rfl rfl rfl ?_
 refine L_nil ?_
 refine T_ret ?_
 exact T_fin () (by first | trivial | omega | (simp; done)) (res2 rfl rfl rfl) [] ⟨by decide, rfl⟩ rfl
set_option maxRecDepth 100000 in
set_option maxHeartbeats 4000000 in
theorem ropen_la_f (key : List (BitVec 8)) (nonce : List (BitVec 8)) (aad : List (BitVec 8)) (cs : List (BitVec 8)) (A1 : Option Addr) (n1 : Nat) (c1 : Nat) (A2 : Option Addr) (n2 : Nat) (c2 : Nat) (w : World) (hO : HOK [.rd A1 1 n1 c1 (aad.map b8), .rd A2 1 n2 c2 (cs.map b8)] w) (hk : key.length = 32) (hn : nonce.length = 12) (h1 : aad.length = n1) (h2 : cs.length = n2) (h3 : 65536 < n1) : Calls Try.prog 28 [(.agg (key.map b8).toArray), (.agg (nonce.map b8).toArray), (.slice A1 n1 c1), (.slice A2 n2 c2)].toArray w (Ret (T := Unit) [] w (fun _ => True) (fun _ => (.tuple [(.slice none 0 0), (.int .i64 ((5 : Nat) : Int))].toArray)) (fun _ => [])) := by
 have hle2 : n2 ≤ 9223372036854775807 := by have h9 := (hO (.rd A2 1 n2 c2 (cs.map b8)) (by simp)).1; exact Nat.le_trans h9.le h9.most
 have hF : Wid Fence.wide := wid_wide
 refine enter (c := _) Try.func28 rfl [] [(.agg (key.map b8).toArray), (.agg (nonce.map b8).toArray), (.slice A1 n1 c1), (.slice A2 n2 c2)] [.rd A1 1 n1 c1 (aad.map b8), .rd A2 1 n2 c2 (cs.map b8)] (by rw [Try.ntmps28]; rfl) (own_rds hO rfl) ?_
 rw [Try.ntmps28]
 refine T_re [(0, (.agg (key.map b8).toArray)), (1, (.agg (nonce.map b8).toArray)), (2, (.slice A1 n1 c1)), (3, (.slice A2 n2 c2))] (sc rfl (sc rfl (sc rfl (sc rfl sn)))) ?_
 refine T_he [0, 1] [.rd A1 1 n1 c1 (aad.map b8), .rd A2 1 n2 c2 (cs.map b8)] ⟨by decide, rfl⟩ ?_
 refine Tsr hF rfl ?_
 refine L_op rfl (op_box (zs := (key.map b8)) rfl rfl rfl rfl rfl (fun g1 => ?_))
 refine L_op rfl (op_box (zs := (nonce.map b8)) rfl rfl rfl rfl rfl (fun g2 => ?_))
 refine la rfl rfl rfl rfl rfl ?_
 refine la rfl rfl rfl rfl rfl ?_
 refine L_nil ?_
 refine Tsr hF rfl ?_
 refine lm rfl rfl rfl rfl rfl ?_
 refine lo rfl (pr_len_sl Try.underlying25 rfl rfl) rfl rfl ?_
 refine lo rfl (pr_sub (zw_i64 (z := (((n2 : Nat) : Int) - ((16 : Nat) : Int))) sd) rfl rfl rfl) rfl rfl ?_
 refine la rfl rfl rfl rfl rfl ?_
 refine L_nil ?_
 refine T_seq ?_
 refine T_block ?_
 refine Tsr hF rfl ?_
 refine lm rfl rfl rfl rfl rfl ?_
 refine lo rfl (pr_len_sl Try.underlying25 rfl rfl) rfl rfl ?_
 refine lo rfl (pr_cmp (bo := .gtr) (nc_lt (a := 65536) (b := n1)) rfl rfl rfl rfl) rfl rfl ?_
 refine lm rfl rfl rfl rfl rfl ?_
 refine T_slot 19 (.bool (decide (65536 < n1))) (.bool true) rfl (congrArg _ (by simp; omega)) ?_
 refine L_skip rfl rfl rfl ?_
 refine L_skip rfl rfl rfl ?_
 refine lo rfl (pr_pick_t rfl rfl rfl) rfl rfl ?_
 refine la rfl rfl rfl rfl rfl ?_
 refine L_nil ?_
 refine T_cond_t rfl ?_
 refine Tsr hF rfl ?_
 refine la rfl rfl rfl rfl rfl ?_
 refine la rfl rfl rfl rfl rfl ?_
 refine L_nil ?_
 refine T_ret ?_
 exact T_fin () (by first | trivial | omega | (simp; done)) (res2 rfl rfl rfl) [] ⟨by decide, rfl⟩ rfl
set_option maxRecDepth 100000 in
set_option maxHeartbeats 4000000 in
theorem ropen_lp_f (key : List (BitVec 8)) (nonce : List (BitVec 8)) (aad : List (BitVec 8)) (cs : List (BitVec 8)) (A1 : Option Addr) (n1 : Nat) (c1 : Nat) (A2 : Option Addr) (n2 : Nat) (c2 : Nat) (w : World) (hO : HOK [.rd A1 1 n1 c1 (aad.map b8), .rd A2 1 n2 c2 (cs.map b8)] w) (hk : key.length = 32) (hn : nonce.length = 12) (h1 : aad.length = n1) (h2 : cs.length = n2) (h3 : n1 ≤ 65536) (h4 : 65552 < n2) : Calls Try.prog 28 [(.agg (key.map b8).toArray), (.agg (nonce.map b8).toArray), (.slice A1 n1 c1), (.slice A2 n2 c2)].toArray w (Ret (T := Unit) [] w (fun _ => True) (fun _ => (.tuple [(.slice none 0 0), (.int .i64 ((5 : Nat) : Int))].toArray)) (fun _ => [])) := by
 have hle2 : n2 ≤ 9223372036854775807 := by have h9 := (hO (.rd A2 1 n2 c2 (cs.map b8)) (by simp)).1; exact Nat.le_trans h9.le h9.most
 have hF : Wid Fence.wide := wid_wide
 refine enter (c := _) Try.func28 rfl [] [(.agg (key.map b8).toArray), (.agg (nonce.map b8).toArray), (.slice A1 n1 c1), (.slice A2 n2 c2)] [.rd A1 1 n1 c1 (aad.map b8), .rd A2 1 n2 c2 (cs.map b8)] (by rw [Try.ntmps28]; rfl) (own_rds hO rfl) ?_
 rw [Try.ntmps28]
 refine T_re [(0, (.agg (key.map b8).toArray)), (1, (.agg (nonce.map b8).toArray)), (2, (.slice A1 n1 c1)), (3, (.slice A2 n2 c2))] (sc rfl (sc rfl (sc rfl (sc rfl sn)))) ?_
 refine T_he [0, 1] [.rd A1 1 n1 c1 (aad.map b8), .rd A2 1 n2 c2 (cs.map b8)] ⟨by decide, rfl⟩ ?_
 refine Tsr hF rfl ?_
 refine L_op rfl (op_box (zs := (key.map b8)) rfl rfl rfl rfl rfl (fun g1 => ?_))
 refine L_op rfl (op_box (zs := (nonce.map b8)) rfl rfl rfl rfl rfl (fun g2 => ?_))
 refine la rfl rfl rfl rfl rfl ?_
 refine la rfl rfl rfl rfl rfl ?_
 refine L_nil ?_
 refine Tsr hF rfl ?_
 refine lm rfl rfl rfl rfl rfl ?_
 refine lo rfl (pr_len_sl Try.underlying25 rfl rfl) rfl rfl ?_
 refine lo rfl (pr_sub (ns_i64 (a := n2) (b := 16) sd sd) rfl rfl rfl) rfl rfl ?_
 refine la rfl rfl rfl rfl rfl ?_
 refine L_nil ?_
 refine T_seq ?_
 refine T_block ?_
 refine Tsr hF rfl ?_
 refine lm rfl rfl rfl rfl rfl ?_
 refine lo rfl (pr_len_sl Try.underlying25 rfl rfl) rfl rfl ?_
 refine lo rfl (pr_cmp (bo := .gtr) (nc_lt (a := 65536) (b := n1)) rfl rfl rfl rfl) rfl rfl ?_
 refine lm rfl rfl rfl rfl rfl ?_
 refine T_slot 19 (.bool (decide (65536 < n1))) (.bool false) rfl (congrArg _ (by simp; omega)) ?_
 refine lm rfl rfl rfl rfl rfl ?_
 refine lo rfl (pr_cmp (bo := .gtr) (nc_lt (a := 65536) (b := n2 - 16)) rfl rfl rfl rfl) rfl rfl ?_
 refine lo rfl (pr_pick_f rfl rfl rfl) rfl rfl ?_
 refine la rfl rfl rfl rfl rfl ?_
 refine L_nil ?_
 refine T_cond_yes (t := decide (65536 < n2 - 16)) rfl (by simp; omega) ?_
 refine Tsr hF rfl ?_
 refine la rfl rfl rfl rfl rfl ?_
 refine la rfl rfl rfl rfl rfl ?_
 refine L_nil ?_
 refine T_ret ?_
 exact T_fin () (by first | trivial | omega | (simp; done)) (res2 rfl rfl rfl) [] ⟨by decide, rfl⟩ rfl
end Go.Proofs.Ytemjinkdfjoicaa
