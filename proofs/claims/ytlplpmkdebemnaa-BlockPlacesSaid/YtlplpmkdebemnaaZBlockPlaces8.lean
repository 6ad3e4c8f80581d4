/- Proved: 'domino/dominolaw10.BlockPlaces' returns true whatever comes in, and its arguments read behind the call as they read before it. No conditions. -/
import Derived.Test.YtlplpmkdebemnaaZBlockPlaces7
import Derived.Test.YtlplpmkdebemnaaProg
import Derived.Test.YtlplpmkdebemnaaRows
import Derived.WalkKit
import Derived.ProofKit
import Derived.OpenShut
import Derived.ShutString
import Derived.ChangeOld
import Derived.Below
namespace Go.Proofs.Ytlplpmkdebemnaa
set_option linter.unusedVariables false
set_option linter.unusedSimpArgs false
set_option linter.unnecessarySimpa false
set_option maxRecDepth 100000
open Go.RowKit Bv Fw

set_option maxRecDepth 100000 in
set_option maxHeartbeats 4000000 in
theorem open_ok_f (key : List (BitVec 8)) (nonce : List (BitVec 8)) (aad : List (BitVec 8)) (cs : List (BitVec 8)) (A1 : Option Addr) (n1 : Nat) (c1 : Nat) (A2 : Option Addr) (n2 : Nat) (c2 : Nat) (w : World) (hO : HOK [.rd A1 1 n1 c1 (aad.map b8), .rd A2 1 n2 c2 (cs.map b8)] w) (hk : key.length = 32) (hn : nonce.length = 12) (h1 : aad.length = n1) (h2 : cs.length = n2) (h3 : n1 ≤ 65536) (h4 : 16 ≤ n2) (h5 : n2 ≤ 65552) (hg : agood key nonce aad cs) : Calls Try.prog 56 [(.agg (key.map b8).toArray), (.agg (nonce.map b8).toArray), (.slice A1 n1 c1), (.slice A2 n2 c2)].toArray w (Ret (T := Option Addr × Nat) [] w (fun ⟨B, d⟩ => True) (fun ⟨B, d⟩ => (.tuple [(.slice B (n2 - 16) d), (.int .i64 ((0 : Nat) : Int))].toArray)) (fun ⟨B, d⟩ => [.row (.slice B (n2 - 16) d) 5 1 (n2 - 16) ((aplain key nonce cs).map b8)])) := by
 have htl := atag_len key nonce aad (List.take (n2 - 16) cs)
 have hcl := cxor_len key nonce 1#32 (List.take (n2 - 16) cs)
 have hF : Wid Fence.wide := wid_wide
 refine enter (c := _) Try.func56 rfl [] _ [.rd A1 1 n1 c1 (aad.map b8), .rd A2 1 n2 c2 (cs.map b8)] (by rw [Try.ntmps56]; rfl) (own_rds hO rfl) ?_
 rw [Try.ntmps56]
 refine T_re [(0, (.agg (key.map b8).toArray)), (1, (.agg (nonce.map b8).toArray)), (2, (.slice A1 n1 c1)), (3, (.slice A2 n2 c2))] (sc rfl (sc rfl (sc rfl (sc rfl sn)))) ?_
 refine T_he [0, 1] [.rd A1 1 n1 c1 (aad.map b8), .rd A2 1 n2 c2 (cs.map b8)] ⟨by decide, rfl⟩ ?_
 refine Tsr hF rfl ?_
 refine L_op rfl (op_box (zs := (key.map b8)) rfl rfl rfl rfl rfl (fun g1 => ?_))
 refine L_op rfl (op_box (zs := (nonce.map b8)) rfl rfl rfl rfl rfl (fun g2 => ?_))
 refine la rfl rfl rfl rfl rfl ?_
 refine la rfl rfl rfl rfl rfl ?_
 refine L_nil ?_
 refine Tsr hF rfl ?_
 refine lm rfl rfl rfl rfl rfl ?_
 refine lo rfl (pr_len_sl Try.underlying23 rfl rfl) rfl rfl ?_
 refine lo rfl (pr_sub (ns_i64 (a := n2) (b := 16) sd sd) rfl rfl rfl) rfl rfl ?_
 refine la rfl rfl rfl rfl rfl ?_
 refine L_nil ?_
 refine T_seq ?_
 refine T_block ?_
 refine Tsr hF rfl ?_
 refine lm rfl rfl rfl rfl rfl ?_
 refine lo rfl (pr_len_sl Try.underlying23 rfl rfl) rfl rfl ?_
 refine lo rfl (pr_cmp (bo := .gtr) (nc_lt (a := 65536) (b := n1)) rfl rfl rfl rfl) rfl rfl ?_
 refine lm rfl rfl rfl rfl rfl ?_
 refine T_slot 19 (.bool (decide (65536 < n1))) (.bool false) rfl (congrArg _ (by simp; omega)) ?_
 refine lm rfl rfl rfl rfl rfl ?_
 refine lo rfl (pr_cmp (bo := .gtr) (nc_lt (a := 65536) (b := n2 - 16)) rfl rfl rfl rfl) rfl rfl ?_
 refine lo rfl (pr_pick_f rfl rfl rfl) rfl rfl ?_
 refine la rfl rfl rfl rfl rfl ?_
 refine L_nil ?_
 refine T_cond_no (t := decide (65536 < n2 - 16)) rfl (by simp; omega) ?_
 refine Tsr hF rfl ?_
 refine lm rfl rfl rfl rfl rfl ?_
 refine lo rfl (pr_cmp (bo := .lss) (nc_lt (a := n2 - 16) (b := 0)) rfl rfl rfl rfl) rfl rfl ?_
 refine la rfl rfl rfl rfl rfl ?_
 refine L_nil ?_
 refine T_cond_f rfl ?_
 refine T_skip ?_
 refine T_seq ?_
 refine T_seq ?_
 refine T_regD [.blk g2 86 (nonce.map b8), .blk g1 50 (key.map b8), .rd A1 1 n1 c1 (aad.map b8), .rd A2 1 n2 c2 (cs.map b8)] 9 9 #[false, false, false, false, false, false, false, false, false] hF kr kr ?_
 refine D_pure (i := 2) [0, 1, 2, 3] rfl kr rfl (pr_move rfl rfl) (.inr rfl) rfl rfl ?_
 refine D_pure (i := 3) [0, 1, 2, 3] rfl kr rfl (pr_move rfl rfl) (.inr rfl) rfl rfl ?_
 refine D_pure (i := 4) [0, 1, 2, 3] rfl kr rfl (pr_move rfl rfl) (.inr rfl) rfl rfl ?_
 refine D_take (i := 0) [0, 1, 2, 3] rfl kr rfl (ld_agg (ds := (key.map b8)) 1 rfl agg_all Try.underlying50 rfl (fwz (n := 32) kr sd) rfl rfl) rfl rfl rfl ?_
 refine D_take (i := 1) [0, 1, 2, 3] rfl kr rfl (ld_agg (ds := (nonce.map b8)) 0 rfl agg_all Try.underlying86 rfl (fwz (n := 12) kr sd) rfl rfl) rfl rfl rfl ?_
 refine D_join (T := Nat) (fun _ => True) (fun g7 => [(3, (.slice A2 n2 c2)), (4, (.pointer (some ⟨g1, 0, none⟩))), (5, (.pointer (some ⟨g2, 0, none⟩))), (10, (.int .i64 ((n2 - 16 : Nat) : Int))), (11, (.pointer (some ⟨g7, 0, none⟩)))]) (fun g7 => [.blk g7 113 ((atag key nonce aad (List.take (n2 - 16) cs)).map b8), .blk g2 86 (nonce.map b8), .blk g1 50 (key.map b8), .rd A1 1 n1 c1 (aad.map b8), .rd A2 1 n2 c2 (cs.map b8)]) ?_ ?_
 ·
  refine D_all [5, 7] kr (by simp) ⟨⟨_, rfl, rfl, ?_⟩, ⟨_, rfl, rfl, ?_⟩, trivial⟩
  ·
   refine id (op_slice_rd (l := 0) (u := n2 - 16) 3 rfl sd sd Try.underlying23 kr rfl rfl rfl ⟨_, rfl⟩ rfl rfl (fun B8 => ?_))
   refine T_as 0 _ (.rd B8 1 (n2 - 16) c2 ((List.take (n2 - 16) cs).map b8)) rfl (by congr 1; simp [List.map_take, List.map_drop] <;> omega) ?_
   refine T_slot 31 _ (.slice B8 (n2 - 16) c2) rfl (by congr 1) ?_
   refine D_on [1, 2, 3, 4] rfl ?_
   refine D_all [6, 7] kr (by simp) ⟨⟨_, rfl, rfl, ?_⟩, ⟨_, rfl, rfl, ?_⟩, trivial⟩
   ·
    refine id (op_cn (fun w hw => atag_f key nonce aad (List.take (n2 - 16) cs) A1 n1 c1 B8 (n2 - 16) c2 w (hok_cons ((src_rd 3 rfl) w hw) (hok_cons ((src_rd 0 rfl) w hw) (hok_nil w))) (by first | assumption | exact sd) (by first | assumption | exact sd) (by first | assumption | exact sd) (by first | assumption | exact sd) sd sd) (enters_of Try.func70 kr rfl) rfl rfl rfl rfl rfl (fun t9 q10 => ?_))
    refine D_on [1, 2, 3, 4] rfl ?_
    refine D_one 7 _ rfl kr rfl (op_alloc (z := .agg ((List.replicate 16 0#8).map b8).toArray) (zs := ((List.replicate 16 0#8).map b8)) kr rfl rfl rfl rfl (fun g11 => ?_))
    refine D_on [2, 3, 4, 5] rfl ?_
    refine D_one 8 _ rfl kr rfl (op_sto (n := 16) (vs := ((atag key nonce aad (List.take (n2 - 16) cs)).map b8)) 0 rfl rfl kr (all8_one _) kr sd rfl rfl rfl rfl ?_)
    refine D_on [2, 3, 4, 5] rfl ?_
    refine D_done kr ?_
    exact T_meet g11 trivial (sc rfl (sc rfl (sc rfl (sc rfl (sc rfl sn))))) [0, 2, 3, 4, 5] ⟨by decide, rfl⟩
   ·
    refine id (op_alloc (z := .agg ((List.replicate 16 0#8).map b8).toArray) (zs := ((List.replicate 16 0#8).map b8)) kr rfl rfl rfl rfl (fun g12 => ?_))
    refine D_on [2, 3, 4, 5] rfl ?_
    refine D_one 6 _ rfl kr rfl (op_cn (fun w hw => atag_f key nonce aad (List.take (n2 - 16) cs) A1 n1 c1 B8 (n2 - 16) c2 w (hok_cons ((src_rd 4 rfl) w hw) (hok_cons ((src_rd 1 rfl) w hw) (hok_nil w))) (by first | assumption | exact sd) (by first | assumption | exact sd) (by first | assumption | exact sd) (by first | assumption | exact sd) sd sd) (enters_of Try.func70 kr rfl) rfl rfl rfl rfl rfl (fun t13 q14 => ?_))
    refine D_on [2, 3, 4, 5] rfl ?_
    refine D_one 8 _ rfl kr rfl (op_sto (n := 16) (vs := ((atag key nonce aad (List.take (n2 - 16) cs)).map b8)) 0 rfl rfl kr (all8_one _) kr sd rfl rfl rfl rfl ?_)
    refine D_on [2, 3, 4, 5] rfl ?_
    refine D_done kr ?_
    exact T_meet g12 trivial (sc rfl (sc rfl (sc rfl (sc rfl (sc rfl sn))))) [0, 2, 3, 4, 5] ⟨by decide, rfl⟩
  ·
   refine id (op_alloc (z := .agg ((List.replicate 16 0#8).map b8).toArray) (zs := ((List.replicate 16 0#8).map b8)) kr rfl rfl rfl rfl (fun g15 => ?_))
   refine D_on [1, 2, 3, 4] rfl ?_
   refine D_one 5 _ rfl kr rfl (op_slice_rd (l := 0) (u := n2 - 16) 4 rfl sd sd Try.underlying23 kr rfl rfl rfl ⟨_, rfl⟩ rfl rfl (fun B16 => ?_))
   refine T_as 0 _ (.rd B16 1 (n2 - 16) c2 ((List.take (n2 - 16) cs).map b8)) rfl (by congr 1; simp [List.map_take, List.map_drop] <;> omega) ?_
   refine T_slot 31 _ (.slice B16 (n2 - 16) c2) rfl (by congr 1) ?_
   refine D_on [2, 3, 4, 5] rfl ?_
   refine D_one 6 _ rfl kr rfl (op_cn (fun w hw => atag_f key nonce aad (List.take (n2 - 16) cs) A1 n1 c1 B16 (n2 - 16) c2 w (hok_cons ((src_rd 4 rfl) w hw) (hok_cons ((src_rd 0 rfl) w hw) (hok_nil w))) (by first | assumption | exact sd) (by first | assumption | exact sd) (by first | assumption | exact sd) (by first | assumption | exact sd) sd sd) (enters_of Try.func70 kr rfl) rfl rfl rfl rfl rfl (fun t17 q18 => ?_))
   refine D_on [2, 3, 4, 5] rfl ?_
   refine D_one 8 _ rfl kr rfl (op_sto (n := 16) (vs := ((atag key nonce aad (List.take (n2 - 16) cs)).map b8)) 1 rfl rfl kr (all8_one _) kr sd rfl rfl rfl rfl ?_)
   refine D_on [2, 3, 4, 5] rfl ?_
   refine D_done kr ?_
   exact T_meet g15 trivial (sc rfl (sc rfl (sc rfl (sc rfl (sc rfl sn))))) [0, 2, 3, 4, 5] ⟨by decide, rfl⟩
 ·
  rintro g7 -
  refine T_re [(3, (.slice A2 n2 c2)), (4, (.pointer (some ⟨g1, 0, none⟩))), (5, (.pointer (some ⟨g2, 0, none⟩))), (10, (.int .i64 ((n2 - 16 : Nat) : Int))), (11, (.pointer (some ⟨g7, 0, none⟩)))] (sc rfl (sc rfl (sc rfl (sc rfl (sc rfl sn))))) ?_
  refine T_he [0, 1, 2, 3, 4] [.blk g7 113 ((atag key nonce aad (List.take (n2 - 16) cs)).map b8), .blk g2 86 (nonce.map b8), .blk g1 50 (key.map b8), .rd A1 1 n1 c1 (aad.map b8), .rd A2 1 n2 c2 (cs.map b8)] ⟨by decide, rfl⟩ ?_
  refine T_seq ?_
  refine T_regD [.blk g7 113 ((atag key nonce aad (List.take (n2 - 16) cs)).map b8), .blk g2 86 (nonce.map b8), .blk g1 50 (key.map b8), .rd A1 1 n1 c1 (aad.map b8), .rd A2 1 n2 c2 (cs.map b8)] 6 6 #[false, false, false, false, false, false] hF kr kr ?_
  refine D_pure (i := 0) [0, 1, 2, 3, 4] rfl kr rfl (pr_sla (l := 0) (u := 16) (m := 0) sd sd sd rfl Try.underlying113 (z := 1) kr rfl rfl rfl rfl) (.inr rfl) rfl rfl ?_
  refine D_pure (i := 1) [0, 1, 2, 3, 4] rfl kr rfl (pr_move rfl rfl) (.inr rfl) rfl rfl ?_
  refine D_pure (i := 2) [0, 1, 2, 3, 4] rfl kr rfl (pr_move rfl rfl) (.inr rfl) rfl rfl ?_
  refine D_one 3 _ rfl kr rfl (op_slice_rd (l := n2 - 16) (u := n2) 4 rfl sd sd Try.underlying23 kr rfl rfl ⟨_, rfl⟩ rfl rfl rfl (fun B19 => ?_))
  refine T_as 0 _ (.rd B19 1 (n2 - (n2 - 16)) (c2 - (n2 - 16)) ((List.drop (n2 - 16) cs).map b8)) rfl (by congr 1; first | rfl | (rw [List.take_of_length_le (by simp; omega)]; simp)) ?_
  refine T_as 0 _ (.rd B19 1 16 (c2 - (n2 - 16)) ((List.drop (n2 - 16) cs).map b8)) rfl (by rw [show n2 - (n2 - 16) = 16 by omega]) ?_
  refine T_slot 36 (.slice B19 (n2 - (n2 - 16)) (c2 - (n2 - 16))) (.slice B19 16 (c2 - (n2 - 16))) rfl (by rw [show n2 - (n2 - 16) = 16 by omega]) ?_
  refine D_on [1, 2, 3, 4, 5] rfl ?_
  refine D_one 4 _ rfl kr rfl (op_cn (fun w hw => ctequal_f (atag key nonce aad (List.take (n2 - 16) cs)) (some ⟨g7, 0, none⟩) 16 16 (List.drop (n2 - 16) cs) B19 (c2 - (n2 - 16)) w (hok_cons ((src_full (z := 1) 1 rfl sd sd sd) w hw) (hok_cons ((src_rd 0 rfl) w hw) (hok_nil w))) sd sd sd) (enters_of Try.func72 kr rfl) rfl rfl rfl rfl rfl (fun t20 q21 => ?_))
  refine D_on [1, 2, 3, 4, 5] rfl ?_
  refine D_pure (i := 5) [1, 2, 3, 4, 5] rfl kr rfl (pr_cmp (bo := .eql) (n64_beq (eqw (atag key nonce aad (List.take (n2 - 16) cs)) (List.drop (n2 - 16) cs)) (0#64)) rfl rfl rfl rfl) (.inr rfl) rfl rfl ?_
  refine D_done kr ?_
  refine T_cond_no (t := ((eqw (atag key nonce aad (List.take (n2 - 16) cs)) (List.drop (n2 - 16) cs)) == 0#64)) rfl (eqw_yes ((agood_iff key nonce aad cs n2 h2).1 hg)) ?_
  refine T_skip ?_
  refine T_seq ?_
  refine T_regD [.rd B19 1 16 (c2 - (n2 - 16)) ((List.drop (n2 - 16) cs).map b8), .blk g7 113 ((atag key nonce aad (List.take (n2 - 16) cs)).map b8), .blk g2 86 (nonce.map b8), .blk g1 50 (key.map b8), .rd A1 1 n1 c1 (aad.map b8), .rd A2 1 n2 c2 (cs.map b8)] 8 8 #[false, false, false, false, false, false, false, false] hF kr kr ?_
  refine D_pure (i := 2) [0, 1, 2, 3, 4, 5] rfl kr rfl (pr_move rfl rfl) (.inr rfl) rfl rfl ?_
  refine D_pure (i := 3) [0, 1, 2, 3, 4, 5] rfl kr rfl (pr_move rfl rfl) (.inr rfl) rfl rfl ?_
  refine D_take (i := 0) [0, 1, 2, 3, 4, 5] rfl kr rfl (ld_agg (ds := (key.map b8)) 3 rfl agg_all Try.underlying50 rfl (fwz (n := 32) kr sd) rfl rfl) rfl rfl rfl ?_
  refine D_take (i := 1) [0, 1, 2, 3, 4, 5] rfl kr rfl (ld_agg (ds := (nonce.map b8)) 2 rfl agg_all Try.underlying86 rfl (fwz (n := 12) kr sd) rfl rfl) rfl rfl rfl ?_
  refine D_one 4 _ rfl kr rfl (op_slice_rd (l := 0) (u := n2 - 16) 5 rfl sd sd Try.underlying23 kr rfl rfl rfl ⟨_, rfl⟩ rfl rfl (fun B22 => ?_))
  refine T_as 0 _ (.rd B22 1 (n2 - 16) c2 ((List.take (n2 - 16) cs).map b8)) rfl (by congr 1; simp [List.map_take, List.map_drop] <;> omega) ?_
  refine T_slot 43 _ (.slice B22 (n2 - 16) c2) rfl (by congr 1) ?_
  refine D_on [1, 2, 3, 4, 5, 6] rfl ?_
  refine D_one 5 _ rfl kr rfl (op_cn (fun w hw => xor_f key nonce (1#32) (List.take (n2 - 16) cs) B22 (n2 - 16) c2 w (hok_cons ((src_rd 0 rfl) w hw) (hok_nil w)) (by first | assumption | exact sd) (by first | assumption | exact sd) (by first | assumption | omega | (simp; done) | (simp; omega)) sd) (enters_of Try.func69 kr rfl) rfl rfl rfl rfl rfl (fun t23 q24 => ?_))
  obtain ⟨B25, d26⟩ := t23
  refine D_on [2, 3, 4, 5, 6, 7] rfl ?_
  refine D_pure (i := 6) [2, 3, 4, 5, 6, 7] rfl kr rfl (pr_assign rfl rfl) (.inr rfl) rfl rfl ?_
  refine D_pure (i := 7) [2, 3, 4, 5, 6, 7] rfl kr rfl (pr_assign rfl rfl) (.inr rfl) rfl rfl ?_
  refine D_done kr ?_
  refine T_ret ?_
  refine T_as 0 _ (.row (.slice B25 (n2 - 16) d26) 5 1 (n2 - 16) ((aplain key nonce cs).map b8)) rfl (by rw [aplain_def key nonce cs n2 h2]) ?_
  exact T_fin (B25, d26) (by first | trivial | omega | (simp; done)) (res2 rfl rfl rfl) [0] ⟨by decide, rfl⟩ rfl
set_option maxRecDepth 100000 in
set_option maxHeartbeats 4000000 in
theorem open_bad_f (key : List (BitVec 8)) (nonce : List (BitVec 8)) (aad : List (BitVec 8)) (cs : List (BitVec 8)) (A1 : Option Addr) (n1 : Nat) (c1 : Nat) (A2 : Option Addr) (n2 : Nat) (c2 : Nat) (w : World) (hO : HOK [.rd A1 1 n1 c1 (aad.map b8), .rd A2 1 n2 c2 (cs.map b8)] w) (hk : key.length = 32) (hn : nonce.length = 12) (h1 : aad.length = n1) (h2 : cs.length = n2) (h3 : n1 ≤ 65536) (h4 : 16 ≤ n2) (h5 : n2 ≤ 65552) (hg : ¬ agood key nonce aad cs) : Calls Try.prog 56 [(.agg (key.map b8).toArray), (.agg (nonce.map b8).toArray), (.slice A1 n1 c1), (.slice A2 n2 c2)].toArray w (Ret (T := Unit) [] w (fun _ => True) (fun _ => (.tuple [(.slice none 0 0), (.int .i64 ((6 : Nat) : Int))].toArray)) (fun _ => [])) := by
 have htl := atag_len key nonce aad (List.take (n2 - 16) cs)
 have hcl := cxor_len key nonce 1#32 (List.take (n2 - 16) cs)
 have hF : Wid Fence.wide := wid_wide
 refine enter (c := _) Try.func56 rfl [] _ [.rd A1 1 n1 c1 (aad.map b8), .rd A2 1 n2 c2 (cs.map b8)] (by rw [Try.ntmps56]; rfl) (own_rds hO rfl) ?_
 rw [Try.ntmps56]
 refine T_re [(0, (.agg (key.map b8).toArray)), (1, (.agg (nonce.map b8).toArray)), (2, (.slice A1 n1 c1)), (3, (.slice A2 n2 c2))] (sc rfl (sc rfl (sc rfl (sc rfl sn)))) ?_
 refine T_he [0, 1] [.rd A1 1 n1 c1 (aad.map b8), .rd A2 1 n2 c2 (cs.map b8)] ⟨by decide, rfl⟩ ?_
 refine Tsr hF rfl ?_
 refine L_op rfl (op_box (zs := (key.map b8)) rfl rfl rfl rfl rfl (fun g1 => ?_))
 refine L_op rfl (op_box (zs := (nonce.map b8)) rfl rfl rfl rfl rfl (fun g2 => ?_))
 refine la rfl rfl rfl rfl rfl ?_
 refine la rfl rfl rfl rfl rfl ?_
 refine L_nil ?_
 refine Tsr hF rfl ?_
 refine lm rfl rfl rfl rfl rfl ?_
 refine lo rfl (pr_len_sl Try.underlying23 rfl rfl) rfl rfl ?_
 refine lo rfl (pr_sub (ns_i64 (a := n2) (b := 16) sd sd) rfl rfl rfl) rfl rfl ?_
 refine la rfl rfl rfl rfl rfl ?_
 refine L_nil ?_
 refine T_seq ?_
 refine T_block ?_
 refine Tsr hF rfl ?_
 refine lm rfl rfl rfl rfl rfl ?_
 refine lo rfl (pr_len_sl Try.underlying23 rfl rfl) rfl rfl ?_
 refine lo rfl (pr_cmp (bo := .gtr) (nc_lt (a := 65536) (b := n1)) rfl rfl rfl rfl) rfl rfl ?_
 refine lm rfl rfl rfl rfl rfl ?_
 refine T_slot 19 (.bool (decide (65536 < n1))) (.bool false) rfl (congrArg _ (by simp; omega)) ?_
 refine lm rfl rfl rfl rfl rfl ?_
 refine lo rfl (pr_cmp (bo := .gtr) (nc_lt (a := 65536) (b := n2 - 16)) rfl rfl rfl rfl) rfl rfl ?_
 refine lo rfl (pr_pick_f rfl rfl rfl) rfl rfl ?_
 refine la rfl rfl rfl rfl rfl ?_
 refine L_nil ?_
 refine T_cond_no (t := decide (65536 < n2 - 16)) rfl (by simp; omega) ?_
 refine Tsr hF rfl ?_
 refine lm rfl rfl rfl rfl rfl ?_
 refine lo rfl (pr_cmp (bo := .lss) (nc_lt (a := n2 - 16) (b := 0)) rfl rfl rfl rfl) rfl rfl ?_
 refine la rfl rfl rfl rfl rfl ?_
 refine L_nil ?_
 refine T_cond_f rfl ?_
 refine T_skip ?_
 refine T_seq ?_
 refine T_seq ?_
 refine T_regD [.blk g2 86 (nonce.map b8), .blk g1 50 (key.map b8), .rd A1 1 n1 c1 (aad.map b8), .rd A2 1 n2 c2 (cs.map b8)] 9 9 #[false, false, false, false, false, false, false, false, false] hF kr kr ?_
 refine D_pure (i := 2) [0, 1, 2, 3] rfl kr rfl (pr_move rfl rfl) (.inr rfl) rfl rfl ?_
 refine D_pure (i := 3) [0, 1, 2, 3] rfl kr rfl (pr_move rfl rfl) (.inr rfl) rfl rfl ?_
 refine D_pure (i := 4) [0, 1, 2, 3] rfl kr rfl (pr_move rfl rfl) (.inr rfl) rfl rfl ?_
 refine D_take (i := 0) [0, 1, 2, 3] rfl kr rfl (ld_agg (ds := (key.map b8)) 1 rfl agg_all Try.underlying50 rfl (fwz (n := 32) kr sd) rfl rfl) rfl rfl rfl ?_
 refine D_take (i := 1) [0, 1, 2, 3] rfl kr rfl (ld_agg (ds := (nonce.map b8)) 0 rfl agg_all Try.underlying86 rfl (fwz (n := 12) kr sd) rfl rfl) rfl rfl rfl ?_
 refine D_join (T := Nat) (fun _ => True) (fun g7 => [(3, (.slice A2 n2 c2)), (4, (.pointer (some ⟨g1, 0, none⟩))), (5, (.pointer (some ⟨g2, 0, none⟩))), (10, (.int .i64 ((n2 - 16 : Nat) : Int))), (11, (.pointer (some ⟨g7, 0, none⟩)))]) (fun g7 => [.blk g7 113 ((atag key nonce aad (List.take (n2 - 16) cs)).map b8), .blk g2 86 (nonce.map b8), .blk g1 50 (key.map b8), .rd A1 1 n1 c1 (aad.map b8), .rd A2 1 n2 c2 (cs.map b8)]) ?_ ?_
 ·
  refine D_all [5, 7] kr (by simp) ⟨⟨_, rfl, rfl, ?_⟩, ⟨_, rfl, rfl, ?_⟩, trivial⟩
  ·
   refine id (op_slice_rd (l := 0) (u := n2 - 16) 3 rfl sd sd Try.underlying23 kr rfl rfl rfl ⟨_, rfl⟩ rfl rfl (fun B8 => ?_))
   refine T_as 0 _ (.rd B8 1 (n2 - 16) c2 ((List.take (n2 - 16) cs).map b8)) rfl (by congr 1; simp [List.map_take, List.map_drop] <;> omega) ?_
   refine T_slot 31 _ (.slice B8 (n2 - 16) c2) rfl (by congr 1) ?_
   refine D_on [1, 2, 3, 4] rfl ?_
   refine D_all [6, 7] kr (by simp) ⟨⟨_, rfl, rfl, ?_⟩, ⟨_, rfl, rfl, ?_⟩, trivial⟩
   ·
    refine id (op_cn (fun w hw => atag_f key nonce aad (List.take (n2 - 16) cs) A1 n1 c1 B8 (n2 - 16) c2 w (hok_cons ((src_rd 3 rfl) w hw) (hok_cons ((src_rd 0 rfl) w hw) (hok_nil w))) (by first | assumption | exact sd) (by first | assumption | exact sd) (by first | assumption | exact sd) (by first | assumption | exact sd) sd sd) (enters_of Try.func70 kr rfl) rfl rfl rfl rfl rfl (fun t9 q10 => ?_))
    refine D_on [1, 2, 3, 4] rfl ?_
    refine D_one 7 _ rfl kr rfl (op_alloc (z := .agg ((List.replicate 16 0#8).map b8).toArray) (zs := ((List.replicate 16 0#8).map b8)) kr rfl rfl rfl rfl (fun g11 => ?_))
    refine D_on [2, 3, 4, 5] rfl ?_
    refine D_one 8 _ rfl kr rfl (op_sto (n := 16) (vs := ((atag key nonce aad (List.take (n2 - 16) cs)).map b8)) 0 rfl rfl kr (all8_one _) kr sd rfl rfl rfl rfl ?_)
    refine D_on [2, 3, 4, 5] rfl ?_
    refine D_done kr ?_
    exact T_meet g11 trivial (sc rfl (sc rfl (sc rfl (sc rfl (sc rfl sn))))) [0, 2, 3, 4, 5] ⟨by decide, rfl⟩
   ·
    refine id (op_alloc (z := .agg ((List.replicate 16 0#8).map b8).toArray) (zs := ((List.replicate 16 0#8).map b8)) kr rfl rfl rfl rfl (fun g12 => ?_))
    refine D_on [2, 3, 4, 5] rfl ?_
    refine D_one 6 _ rfl kr rfl (op_cn (fun w hw => atag_f key nonce aad (List.take (n2 - 16) cs) A1 n1 c1 B8 (n2 - 16) c2 w (hok_cons ((src_rd 4 rfl) w hw) (hok_cons ((src_rd 1 rfl) w hw) (hok_nil w))) (by first | assumption | exact sd) (by first | assumption | exact sd) (by first | assumption | exact sd) (by first | assumption | exact sd) sd sd) (enters_of Try.func70 kr rfl) rfl rfl rfl rfl rfl (fun t13 q14 => ?_))
    refine D_on [2, 3, 4, 5] rfl ?_
    refine D_one 8 _ rfl kr rfl (op_sto (n := 16) (vs := ((atag key nonce aad (List.take (n2 - 16) cs)).map b8)) 0 rfl rfl kr (all8_one _) kr sd rfl rfl rfl rfl ?_)
    refine D_on [2, 3, 4, 5] rfl ?_
    refine D_done kr ?_
    exact T_meet g12 trivial (sc rfl (sc rfl (sc rfl (sc rfl (sc rfl sn))))) [0, 2, 3, 4, 5] ⟨by decide, rfl⟩
  ·
   refine id (op_alloc (z := .agg ((List.replicate 16 0#8).map b8).toArray) (zs := ((List.replicate 16 0#8).map b8)) kr rfl rfl rfl rfl (fun g15 => ?_))
   refine D_on [1, 2, 3, 4] rfl ?_
   refine D_one 5 _ rfl kr rfl (op_slice_rd (l := 0) (u := n2 - 16) 4 rfl sd sd Try.underlying23 kr rfl rfl rfl ⟨_, rfl⟩ rfl rfl (fun B16 => ?_))
   refine T_as 0 _ (.rd B16 1 (n2 - 16) c2 ((List.take (n2 - 16) cs).map b8)) rfl (by congr 1; simp [List.map_take, List.map_drop] <;> omega) ?_
   refine T_slot 31 _ (.slice B16 (n2 - 16) c2) rfl (by congr 1) ?_
   refine D_on [2, 3, 4, 5] rfl ?_
   refine D_one 6 _ rfl kr rfl (op_cn (fun w hw => atag_f key nonce aad (List.take (n2 - 16) cs) A1 n1 c1 B16 (n2 - 16) c2 w (hok_cons ((src_rd 4 rfl) w hw) (hok_cons ((src_rd 0 rfl) w hw) (hok_nil w))) (by first | assumption | exact sd) (by first | assumption | exact sd) (by first | assumption | exact sd) (by first | assumption | exact sd) sd sd) (enters_of Try.func70 kr rfl) rfl rfl rfl rfl rfl (fun t17 q18 => ?_))
   refine D_on [2, 3, 4, 5] rfl ?_
   refine D_one 8 _ rfl kr rfl (op_sto (n := 16) (vs := ((atag key nonce aad (List.take (n2 - 16) cs)).map b8)) 1 rfl rfl kr (all8_one _) kr sd rfl rfl rfl rfl ?_)
   refine D_on [2, 3, 4, 5] rfl ?_
   refine D_done kr ?_
   exact T_meet g15 trivial (sc rfl (sc rfl (sc rfl (sc rfl (sc rfl sn))))) [0, 2, 3, 4, 5] ⟨by decide, rfl⟩
 ·
  rintro g7 -
  refine T_re [(3, (.slice A2 n2 c2)), (4, (.pointer (some ⟨g1, 0, none⟩))), (5, (.pointer (some ⟨g2, 0, none⟩))), (10, (.int .i64 ((n2 - 16 : Nat) : Int))), (11, (.pointer (some ⟨g7, 0, none⟩)))] (sc rfl (sc rfl (sc rfl (sc rfl (sc rfl sn))))) ?_
  refine T_he [0, 1, 2, 3, 4] [.blk g7 113 ((atag key nonce aad (List.take (n2 - 16) cs)).map b8), .blk g2 86 (nonce.map b8), .blk g1 50 (key.map b8), .rd A1 1 n1 c1 (aad.map b8), .rd A2 1 n2 c2 (cs.map b8)] ⟨by decide, rfl⟩ ?_
  refine T_seq ?_
  refine T_regD [.blk g7 113 ((atag key nonce aad (List.take (n2 - 16) cs)).map b8), .blk g2 86 (nonce.map b8), .blk g1 50 (key.map b8), .rd A1 1 n1 c1 (aad.map b8), .rd A2 1 n2 c2 (cs.map b8)] 6 6 #[false, false, false, false, false, false] hF kr kr ?_
  refine D_pure (i := 0) [0, 1, 2, 3, 4] rfl kr rfl (pr_sla (l := 0) (u := 16) (m := 0) sd sd sd rfl Try.underlying113 (z := 1) kr rfl rfl rfl rfl) (.inr rfl) rfl rfl ?_
  refine D_pure (i := 1) [0, 1, 2, 3, 4] rfl kr rfl (pr_move rfl rfl) (.inr rfl) rfl rfl ?_
  refine D_pure (i := 2) [0, 1, 2, 3, 4] rfl kr rfl (pr_move rfl rfl) (.inr rfl) rfl rfl ?_
  refine D_one 3 _ rfl kr rfl (op_slice_rd (l := n2 - 16) (u := n2) 4 rfl sd sd Try.underlying23 kr rfl rfl ⟨_, rfl⟩ rfl rfl rfl (fun B19 => ?_))
  refine T_as 0 _ (.rd B19 1 (n2 - (n2 - 16)) (c2 - (n2 - 16)) ((List.drop (n2 - 16) cs).map b8)) rfl (by congr 1; first | rfl | (rw [List.take_of_length_le (by simp; omega)]; simp)) ?_
  refine T_as 0 _ (.rd B19 1 16 (c2 - (n2 - 16)) ((List.drop (n2 - 16) cs).map b8)) rfl (by rw [show n2 - (n2 - 16) = 16 by omega]) ?_
  refine T_slot 36 (.slice B19 (n2 - (n2 - 16)) (c2 - (n2 - 16))) (.slice B19 16 (c2 - (n2 - 16))) rfl (by rw [show n2 - (n2 - 16) = 16 by omega]) ?_
  refine D_on [1, 2, 3, 4, 5] rfl ?_
  refine D_one 4 _ rfl kr rfl (op_cn (fun w hw => ctequal_f (atag key nonce aad (List.take (n2 - 16) cs)) (some ⟨g7, 0, none⟩) 16 16 (List.drop (n2 - 16) cs) B19 (c2 - (n2 - 16)) w (hok_cons ((src_full (z := 1) 1 rfl sd sd sd) w hw) (hok_cons ((src_rd 0 rfl) w hw) (hok_nil w))) sd sd sd) (enters_of Try.func72 kr rfl) rfl rfl rfl rfl rfl (fun t20 q21 => ?_))
  refine D_on [1, 2, 3, 4, 5] rfl ?_
  refine D_pure (i := 5) [1, 2, 3, 4, 5] rfl kr rfl (pr_cmp (bo := .eql) (n64_beq (eqw (atag key nonce aad (List.take (n2 - 16) cs)) (List.drop (n2 - 16) cs)) (0#64)) rfl rfl rfl rfl) (.inr rfl) rfl rfl ?_
  refine D_done kr ?_
  refine T_cond_yes (t := ((eqw (atag key nonce aad (List.take (n2 - 16) cs)) (List.drop (n2 - 16) cs)) == 0#64)) rfl (eqw_no (fun e => hg ((agood_iff key nonce aad cs n2 h2).2 e))) ?_
  refine Tsr hF rfl ?_
  refine la rfl rfl rfl rfl rfl ?_
  refine la rfl rfl rfl rfl rfl ?_
  refine L_nil ?_
  refine T_ret ?_
  exact T_fin () (by first | trivial | omega | (simp; done)) (res2 rfl rfl rfl) [] ⟨by decide, rfl⟩ rfl
set_option maxRecDepth 100000 in
set_option maxHeartbeats 4000000 in
theorem open_short_f (key : List (BitVec 8)) (nonce : List (BitVec 8)) (aad : List (BitVec 8)) (cs : List (BitVec 8)) (A1 : Option Addr) (n1 : Nat) (c1 : Nat) (A2 : Option Addr) (n2 : Nat) (c2 : Nat) (w : World) (hO : HOK [.rd A1 1 n1 c1 (aad.map b8), .rd A2 1 n2 c2 (cs.map b8)] w) (hk : key.length = 32) (hn : nonce.length = 12) (h1 : aad.length = n1) (h2 : cs.length = n2) (h3 : n1 ≤ 65536) (h4 : n2 < 16) : Calls Try.prog 56 [(.agg (key.map b8).toArray), (.agg (nonce.map b8).toArray), (.slice A1 n1 c1), (.slice A2 n2 c2)].toArray w (Ret (T := Unit) [] w (fun _ => True) (fun _ => (.tuple [(.slice none 0 0), (.int .i64 ((3 : Nat) : Int))].toArray)) (fun _ => [])) := by
 have hF : Wid Fence.wide := wid_wide
 refine enter (c := _) Try.func56 rfl [] _ [.rd A1 1 n1 c1 (aad.map b8), .rd A2 1 n2 c2 (cs.map b8)] (by rw [Try.ntmps56]; rfl) (own_rds hO rfl) ?_
 rw [Try.ntmps56]
 refine T_re [(0, (.agg (key.map b8).toArray)), (1, (.agg (nonce.map b8).toArray)), (2, (.slice A1 n1 c1)), (3, (.slice A2 n2 c2))] (sc rfl (sc rfl (sc rfl (sc rfl sn)))) ?_
 refine T_he [0, 1] [.rd A1 1 n1 c1 (aad.map b8), .rd A2 1 n2 c2 (cs.map b8)] ⟨by decide, rfl⟩ ?_
 refine Tsr hF rfl ?_
 refine L_op rfl (op_box (zs := (key.map b8)) rfl rfl rfl rfl rfl (fun g1 => ?_))
 refine L_op rfl (op_box (zs := (nonce.map b8)) rfl rfl rfl rfl rfl (fun g2 => ?_))
 refine la rfl rfl rfl rfl rfl ?_
 refine la rfl rfl rfl rfl rfl ?_
 refine L_nil ?_
 refine Tsr hF rfl ?_
 refine lm rfl rfl rfl rfl rfl ?_
 refine lo rfl (pr_len_sl Try.underlying23 rfl rfl) rfl rfl ?_
 refine lo rfl (pr_sub (zw_i64 (z := (((n2 : Nat) : Int) - ((16 : Nat) : Int))) sd) rfl rfl rfl) rfl rfl ?_
 refine la rfl rfl rfl rfl rfl ?_
 refine L_nil ?_
 refine T_seq ?_
 refine T_block ?_
 refine Tsr hF rfl ?_
 refine lm rfl rfl rfl rfl rfl ?_
 refine lo rfl (pr_len_sl Try.underlying23 rfl rfl) rfl rfl ?_
 refine lo rfl (pr_cmp (bo := .gtr) (nc_lt (a := 65536) (b := n1)) rfl rfl rfl rfl) rfl rfl ?_
 refine lm rfl rfl rfl rfl rfl ?_
 refine T_slot 19 (.bool (decide (65536 < n1))) (.bool false) rfl (congrArg _ (by simp; omega)) ?_
 refine lm rfl rfl rfl rfl rfl ?_
 refine lo rfl (pr_cmp (bo := .gtr) (k := .i64) (a := (((n2 : Nat) : Int) - ((16 : Nat) : Int))) (b := ((65536 : Nat) : Int)) (c := decide (((65536 : Nat) : Int) < (((n2 : Nat) : Int) - ((16 : Nat) : Int)))) rfl rfl rfl rfl rfl) rfl rfl ?_
 refine lo rfl (pr_pick_f rfl rfl rfl) rfl rfl ?_
 refine la rfl rfl rfl rfl rfl ?_
 refine L_nil ?_
 refine T_cond_no (t := decide (((65536 : Nat) : Int) < (((n2 : Nat) : Int) - ((16 : Nat) : Int)))) rfl (by simp; omega) ?_
 refine Tsr hF rfl ?_
 refine lm rfl rfl rfl rfl rfl ?_
 refine lo rfl (pr_cmp (bo := .lss) (k := .i64) (a := (((n2 : Nat) : Int) - ((16 : Nat) : Int))) (b := ((0 : Nat) : Int)) (c := decide ((((n2 : Nat) : Int) - ((16 : Nat) : Int)) < ((0 : Nat) : Int))) rfl rfl rfl rfl rfl) rfl rfl ?_
 refine la rfl rfl rfl rfl rfl ?_
 refine L_nil ?_
 refine T_cond_yes (t := decide ((((n2 : Nat) : Int) - ((16 : Nat) : Int)) < ((0 : Nat) : Int))) rfl (by simp; omega) ?_
 refine Tsr hF rfl ?_
 refine la rfl rfl rfl rfl rfl ?_
 refine la rfl rfl rfl rfl rfl ?_
 refine L_nil ?_
 refine T_ret ?_
 exact T_fin () (by first | trivial | omega | (simp; done)) (res2 rfl rfl rfl) [] ⟨by decide, rfl⟩ rfl
set_option maxRecDepth 100000 in
set_option maxHeartbeats 4000000 in
theorem open_la_f (key : List (BitVec 8)) (nonce : List (BitVec 8)) (aad : List (BitVec 8)) (cs : List (BitVec 8)) (A1 : Option Addr) (n1 : Nat) (c1 : Nat) (A2 : Option Addr) (n2 : Nat) (c2 : Nat) (w : World) (hO : HOK [.rd A1 1 n1 c1 (aad.map b8), .rd A2 1 n2 c2 (cs.map b8)] w) (hk : key.length = 32) (hn : nonce.length = 12) (h1 : aad.length = n1) (h2 : cs.length = n2) (h3 : 65536 < n1) : Calls Try.prog 56 [(.agg (key.map b8).toArray), (.agg (nonce.map b8).toArray), (.slice A1 n1 c1), (.slice A2 n2 c2)].toArray w (Ret (T := Unit) [] w (fun _ => True) (fun _ => (.tuple [(.slice none 0 0), (.int .i64 ((5 : Nat) : Int))].toArray)) (fun _ => [])) := by
 have hle2 : n2 ≤ 9223372036854775807 := by have h9 := (hO (.rd A2 1 n2 c2 (cs.map b8)) (by simp)).1; exact Nat.le_trans h9.le h9.most
 have hF : Wid Fence.wide := wid_wide
 refine enter (c := _) Try.func56 rfl [] _ [.rd A1 1 n1 c1 (aad.map b8), .rd A2 1 n2 c2 (cs.map b8)] (by rw [Try.ntmps56]; rfl) (own_rds hO rfl) ?_
 rw [Try.ntmps56]
 refine T_re [(0, (.agg (key.map b8).toArray)), (1, (.agg (nonce.map b8).toArray)), (2, (.slice A1 n1 c1)), (3, (.slice A2 n2 c2))] (sc rfl (sc rfl (sc rfl (sc rfl sn)))) ?_
 refine T_he [0, 1] [.rd A1 1 n1 c1 (aad.map b8), .rd A2 1 n2 c2 (cs.map b8)] ⟨by decide, rfl⟩ ?_
 refine Tsr hF rfl ?_
 refine L_op rfl (op_box (zs := (key.map b8)) rfl rfl rfl rfl rfl (fun g1 => ?_))
 refine L_op rfl (op_box (zs := (nonce.map b8)) rfl rfl rfl rfl rfl (fun g2 => ?_))
 refine la rfl rfl rfl rfl rfl ?_
 refine la rfl rfl rfl rfl rfl ?_
 refine L_nil ?_
 refine Tsr hF rfl ?_
 refine lm rfl rfl rfl rfl rfl ?_
 refine lo rfl (pr_len_sl Try.underlying23 rfl rfl) rfl rfl ?_
 refine lo rfl (pr_sub (zw_i64 (z := (((n2 : Nat) : Int) - ((16 : Nat) : Int))) sd) rfl rfl rfl) rfl rfl ?_
 refine la rfl rfl rfl rfl rfl ?_
 refine L_nil ?_
 refine T_seq ?_
 refine T_block ?_
 refine Tsr hF rfl ?_
 refine lm rfl rfl rfl rfl rfl ?_
 refine lo rfl (pr_len_sl Try.underlying23 rfl rfl) rfl rfl ?_
 refine lo rfl (pr_cmp (bo := .gtr) (nc_lt (a := 65536) (b := n1)) rfl rfl rfl rfl) rfl rfl ?_
 refine lm rfl rfl rfl rfl rfl ?_
 refine T_slot 19 (.bool (decide (65536 < n1))) (.bool true) rfl (congrArg _ (by simp; omega)) ?_
 refine L_skip rfl rfl rfl ?_
 refine L_skip rfl rfl rfl ?_
 refine lo rfl (pr_pick_t rfl rfl rfl) rfl rfl ?_
 refine la rfl rfl rfl rfl rfl ?_
 refine L_nil ?_
 refine T_cond_t rfl ?_
 refine Tsr hF rfl ?_
 refine la rfl rfl rfl rfl rfl ?_
 refine la rfl rfl rfl rfl rfl ?_
 refine L_nil ?_
 refine T_ret ?_
 exact T_fin () (by first | trivial | omega | (simp; done)) (res2 rfl rfl rfl) [] ⟨by decide, rfl⟩ rfl
set_option maxRecDepth 100000 in
set_option maxHeartbeats 4000000 in
theorem open_lp_f (key : List (BitVec 8)) (nonce : List (BitVec 8)) (aad : List (BitVec 8)) (cs : List (BitVec 8)) (A1 : Option Addr) (n1 : Nat) (c1 : Nat) (A2 : Option Addr) (n2 : Nat) (c2 : Nat) (w : World) (hO : HOK [.rd A1 1 n1 c1 (aad.map b8), .rd A2 1 n2 c2 (cs.map b8)] w) (hk : key.length = 32) (hn : nonce.length = 12) (h1 : aad.length = n1) (h2 : cs.length = n2) (h3 : n1 ≤ 65536) (h4 : 65552 < n2) : Calls Try.prog 56 [(.agg (key.map b8).toArray), (.agg (nonce.map b8).toArray), (.slice A1 n1 c1), (.slice A2 n2 c2)].toArray w (Ret (T := Unit) [] w (fun _ => True) (fun _ => (.tuple [(.slice none 0 0), (.int .i64 ((5 : Nat) : Int))].toArray)) (fun _ => [])) := by
 have hle2 : n2 ≤ 9223372036854775807 := by have h9 := (hO (.rd A2 1 n2 c2 (cs.map b8)) (by simp)).1; exact Nat.le_trans h9.le h9.most
 have hF : Wid Fence.wide := wid_wide
 refine enter (c := _) Try.func56 rfl [] _ [.rd A1 1 n1 c1 (aad.map b8), .rd A2 1 n2 c2 (cs.map b8)] (by rw [Try.ntmps56]; rfl) (own_rds hO rfl) ?_
 rw [Try.ntmps56]
 refine T_re [(0, (.agg (key.map b8).toArray)), (1, (.agg (nonce.map b8).toArray)), (2, (.slice A1 n1 c1)), (3, (.slice A2 n2 c2))] (sc rfl (sc rfl (sc rfl (sc rfl sn)))) ?_
 refine T_he [0, 1] [.rd A1 1 n1 c1 (aad.map b8), .rd A2 1 n2 c2 (cs.map b8)] ⟨by decide, rfl⟩ ?_
 refine Tsr hF rfl ?_
 refine L_op rfl (op_box (zs := (key.map b8)) rfl rfl rfl rfl rfl (fun g1 => ?_))
 refine L_op rfl (op_box (zs := (nonce.map b8)) rfl rfl rfl rfl rfl (fun g2 => ?_))
 refine la rfl rfl rfl rfl rfl ?_
 refine la rfl rfl rfl rfl rfl ?_
 refine L_nil ?_
 refine Tsr hF rfl ?_
 refine lm rfl rfl rfl rfl rfl ?_
 refine lo rfl (pr_len_sl Try.underlying23 rfl rfl) rfl rfl ?_
 refine lo rfl (pr_sub (ns_i64 (a := n2) (b := 16) sd sd) rfl rfl rfl) rfl rfl ?_
 refine la rfl rfl rfl rfl rfl ?_
 refine L_nil ?_
 refine T_seq ?_
 refine T_block ?_
 refine Tsr hF rfl ?_
 refine lm rfl rfl rfl rfl rfl ?_
 refine lo rfl (pr_len_sl Try.underlying23 rfl rfl) rfl rfl ?_
 refine lo rfl (pr_cmp (bo := .gtr) (nc_lt (a := 65536) (b := n1)) rfl rfl rfl rfl) rfl rfl ?_
 refine lm rfl rfl rfl rfl rfl ?_
 refine T_slot 19 (.bool (decide (65536 < n1))) (.bool false) rfl (congrArg _ (by simp; omega)) ?_
 refine lm rfl rfl rfl rfl rfl ?_
 refine lo rfl (pr_cmp (bo := .gtr) (nc_lt (a := 65536) (b := n2 - 16)) rfl rfl rfl rfl) rfl rfl ?_
 refine lo rfl (pr_pick_f rfl rfl rfl) rfl rfl ?_
 refine la rfl rfl rfl rfl rfl ?_
 refine L_nil ?_
 refine T_cond_yes (t := decide (65536 < n2 - 16)) rfl (by simp; omega) ?_
 refine Tsr hF rfl ?_
 refine la rfl rfl rfl rfl rfl ?_
 refine la rfl rfl rfl rfl rfl ?_
 refine L_nil ?_
 refine T_ret ?_
 exact T_fin () (by first | trivial | omega | (simp; done)) (res2 rfl rfl rfl) [] ⟨by decide, rfl⟩ rfl
end Go.Proofs.Ytlplpmkdebemnaa
namespace Go.Proofs.Ytlplpmkdebemnaa
set_option linter.unusedVariables false
set_option linter.unusedSimpArgs false
set_option linter.unnecessarySimpa false
set_option maxRecDepth 100000
open Go.RowKit Bv Fw

/-- The key of a place; what stands beside its block; records sealed there. -/
def pkey (job : List (BitVec 8)) (pp pr pa : BitVec 64) : List (BitVec 8) := kof job ([112#8, 108#8, 97#8, 99#8, 101#8] ++ eights [pp, pr, pa])
theorem pkey_def (job : List (BitVec 8)) (pp pr pa : BitVec 64) : kof job ([112#8, 108#8, 97#8, 99#8, 101#8] ++ eights [pp, pr, pa]) = pkey job pp pr pa := rfl
theorem pkey_len (job : List (BitVec 8)) (pp pr pa : BitVec 64) : (pkey job pp pr pa).length = 32 := kof_len _ _
attribute [irreducible] pkey
def paad (pp pr pa pt pi : BitVec 64) (q : Nat) : List (BitVec 8) := eights [pp, pr, pa, pt, pi, BitVec.ofNat 64 (32 * q)]
theorem paad_def (pp pr pa pt pi : BitVec 64) (q : Nat) : eights [pp, pr, pa, pt, pi, BitVec.ofNat 64 (32 * q)] = paad pp pr pa pt pi q := rfl
theorem paad_len (pp pr pa pt pi : BitVec 64) (q : Nat) : (paad pp pr pa pt pi q).length = 48 := eights_six _ _ _ _ _ _
attribute [irreducible] paad
theorem ptake {a b : List (BitVec 8)} (h : a.length = 32) : List.take 32 (a ++ b) = a := List.take_left' h
theorem pdrop {a b : List (BitVec 8)} (h : a.length = 32) (h2 : b.length = 12) : List.take 12 (List.drop 32 (a ++ b)) = b := by rw [List.drop_left' h, List.take_of_length_le (by omega)]
theorem bpe_q {n q : Nat} (h1 : 1 ≤ q) (h8 : q ≤ 8) (h : n ≤ q) : bpe n ((q : Nat) : Int) = 0 := bpe_ok (by omega) (by omega) (by omega)
theorem bpl_q {n q : Nat} (h1 : 1 ≤ q) (h8 : q ≤ 8) (h : n ≤ q) : bpl n ((q : Nat) : Int) = 32 * q := by rw [bpl_ok rfl (by omega) (by omega) (by omega)]; omega
theorem mayb_q {q : Nat} (h1 : 1 ≤ q) (h8 : q ≤ 8) : mayb ((q : Nat) : Int) = true := by unfold mayb; simp; omega
theorem mayb_n {z : Int} (h : z < 1 ∨ 8 < z) : mayb z = false := by unfold mayb; simp; omega
theorem low_lowb (v : BitVec 64) : low (lowb v 8) 8 = v := by
  apply BitVec.eq_of_toNat_eq
  rw [low_toNat _ 8 (by omega) (by rw [lowb_len]; omega), List.take_of_length_le (by rw [lowb_len]; omega), lowb_dig v 8 (by omega), vw_dig 8 8 _ (by omega)]
  have := v.isLt
  have p8 : (256 : Nat) ^ 8 = 18446744073709551616 := rfl
  omega
theorem eights_drop : ∀ (k : Nat) (xs : List (BitVec 64)), List.drop (8 * k) (eights xs) = eights (xs.drop k)
  | 0, xs => rfl
  | k + 1, [] => by simp [eights]
  | k + 1, x :: xs => by
    rw [eights, show 8 * (k + 1) = 8 + 8 * k by omega, ← List.drop_drop, List.drop_left' (lowb_len x 8), eights_drop k xs]; rfl
theorem wds_eights (xs : List (BitVec 64)) : ∀ k, k ≤ xs.length → wds (eights xs) k = xs.take k
  | 0, _ => by simp [wds]
  | k + 1, h => by
    rw [wds, wds_eights xs k (by omega), eights_drop, List.drop_eq_getElem_cons (by omega), eights, List.take_left' (lowb_len _ 8), low_lowb, List.take_succ_eq_append_getElem (by omega)]
/-- What a record is behind its bytes. -/
def rnorm (r : Rc) : Rc := if r.d then rdead else r
theorem rte_rpk (r : Rc) : rte (rpk r) = 0 := by
  refine rte_ok (rpk_len r) ?_
  unfold rpk
  split
  · rw [wds_eights _ 4 (Nat.le_refl _)]; unfold RBad; decide
  · rw [wds_eights _ 4 (Nat.le_refl _)]
    rintro (h | ⟨h, _⟩)
    · exact absurd h (by show ¬ 1#64 < 0#64; decide)
    · exact absurd h (by show ¬ 0#64 = 1#64; decide)
theorem rtk_rpk (r : Rc) : rtk (rpk r) = rnorm r := by
  rw [rtk_ok (rte_rpk r)]
  unfold rpk rnorm
  split
  · rw [wds_eights _ 4 (Nat.le_refl _)]; rfl
  · rename_i h
    rw [wds_eights _ 4 (Nat.le_refl _)]
    obtain ⟨d, k, v, s⟩ := r
    cases d
    · rfl
    · exact absurd rfl h
theorem pkl_drop : ∀ (k : Nat) (xs : List Rc), List.drop (32 * k) (pkl xs) = pkl (xs.drop k)
  | 0, xs => rfl
  | k + 1, [] => by simp [pkl]
  | k + 1, x :: xs => by
    rw [pkl, show 32 * (k + 1) = 32 + 32 * k by omega, ← List.drop_drop, List.drop_left' (rpk_len x), pkl_drop k xs]; rfl
theorem chk_pkl (xs : List Rc) (k : Nat) (h : k < xs.length) : chk (pkl xs) k = rpk xs[k] := by
  unfold chk
  rw [pkl_drop, List.drop_eq_getElem_cons h, pkl, List.take_left' (rpk_len _)]
theorem tke_pkl (xs : List Rc) : ∀ k, k ≤ xs.length → tke (pkl xs) k = 0
  | 0, _ => rfl
  | k + 1, h => by rw [tke, if_pos (tke_pkl xs k (by omega)), chk_pkl xs k (by omega), rte_rpk]
theorem tks_pkl (xs : List Rc) : ∀ k, k ≤ xs.length → tks (pkl xs) k = (xs.take k).map rnorm
  | 0, _ => by simp [tks]
  | k + 1, h => by rw [tks, tks_pkl xs k (by omega), chk_pkl xs k (by omega), rtk_rpk, List.take_succ_eq_append_getElem (by omega), List.map_append]; rfl
/-- Records packed are taken. -/
theorem bte_bpb {xs : List Rc} {n q : Nat} (hx : xs.length = n) (h1 : 1 ≤ q) (h8 : q ≤ 8) (h : n ≤ q) : bte (bpb xs ((q : Nat) : Int)) ((q : Nat) : Int) = 0 := by
  have hl : (xs ++ List.replicate (q - n) rdead).length = q := by simp [hx]; omega
  rw [bpb_ok hx rfl (by omega) (by omega) (by omega), bte_ok (q := q) (by omega) (by omega) rfl (by rw [pkl_len, hl])]
  exact tke_pkl _ q (by omega)
theorem btk_bpb {xs : List Rc} {n q : Nat} (hx : xs.length = n) (h1 : 1 ≤ q) (h8 : q ≤ 8) (h : n ≤ q) : btk (bpb xs ((q : Nat) : Int)) ((q : Nat) : Int) = (xs ++ List.replicate (q - n) rdead).map rnorm := by
  have hl : (xs ++ List.replicate (q - n) rdead).length = q := by simp [hx]; omega
  rw [btk_ok (bte_bpb hx h1 h8 h) rfl, bpb_ok hx rfl (by omega) (by omega) (by omega), tks_pkl _ q (by omega), List.take_of_length_le (by omega)]

set_option maxHeartbeats 4000000 in
theorem buse_f (job : List (BitVec 8)) (pp : BitVec 64) (pr : BitVec 64) (pa : BitVec 64) (pt : BitVec 64) (pi : BitVec 64) (w : World) (hO : HOK [] w) (hj : job.length = 32) : Calls Try.prog 53 [(.agg (job.map b8).toArray), (.agg [(.int .i64 (i64 pp)), (.int .i64 (i64 pr)), (.int .i64 (i64 pa)), (b64 pt), (.int .i64 (i64 pi))].toArray)].toArray w (Ret (T := Unit) [] w (fun _ => True) (fun _ => (.agg (((pkey job pp pr pa) ++ (nonc pt pi)).map b8).toArray)) (fun _ => [])) := by
 have hpk := pkey_len job pp pr pa
 have hnn := nonc_len pt pi
 have huu : ((pkey job pp pr pa) ++ (nonc pt pi)).length = 44 := by rw [List.length_append, hpk, hnn]
 have hF : Wid Fence.wide := wid_wide
 refine enter (c := _) Try.func53 rfl [] _ [] (by rw [Try.ntmps53]; rfl) (own_rds hO rfl) ?_
 rw [Try.ntmps53]
 refine T_re [(0, (.agg (job.map b8).toArray)), (1, (.agg [(.int .i64 (i64 pp)), (.int .i64 (i64 pr)), (.int .i64 (i64 pa)), (b64 pt), (.int .i64 (i64 pi))].toArray))] (sc rfl (sc rfl sn)) ?_
 refine T_he [] [] ⟨by decide, rfl⟩ ?_
 refine Tsr hF rfl ?_
 refine L_op rfl (op_box (zs := (job.map b8)) rfl rfl rfl rfl rfl (fun g1 => ?_))
 refine L_op rfl (op_box (zs := [(.int .i64 (i64 pp)), (.int .i64 (i64 pr)), (.int .i64 (i64 pa)), (b64 pt), (.int .i64 (i64 pi))]) rfl rfl rfl rfl rfl (fun g2 => ?_))
 refine L_op rfl (op_alloc (z := .agg [(b8 (0#8)), (b8 (0#8)), (b8 (0#8)), (b8 (0#8)), (b8 (0#8)), (b8 (0#8)), (b8 (0#8)), (b8 (0#8)), (b8 (0#8)), (b8 (0#8)), (b8 (0#8)), (b8 (0#8)), (b8 (0#8)), (b8 (0#8)), (b8 (0#8)), (b8 (0#8)), (b8 (0#8)), (b8 (0#8)), (b8 (0#8)), (b8 (0#8)), (b8 (0#8)), (b8 (0#8)), (b8 (0#8)), (b8 (0#8)), (b8 (0#8)), (b8 (0#8)), (b8 (0#8)), (b8 (0#8)), (b8 (0#8)), (b8 (0#8)), (b8 (0#8)), (b8 (0#8)), (b8 (0#8)), (b8 (0#8)), (b8 (0#8)), (b8 (0#8)), (b8 (0#8)), (b8 (0#8)), (b8 (0#8)), (b8 (0#8)), (b8 (0#8)), (b8 (0#8)), (b8 (0#8)), (b8 (0#8))].toArray) (zs := [(b8 (0#8)), (b8 (0#8)), (b8 (0#8)), (b8 (0#8)), (b8 (0#8)), (b8 (0#8)), (b8 (0#8)), (b8 (0#8)), (b8 (0#8)), (b8 (0#8)), (b8 (0#8)), (b8 (0#8)), (b8 (0#8)), (b8 (0#8)), (b8 (0#8)), (b8 (0#8)), (b8 (0#8)), (b8 (0#8)), (b8 (0#8)), (b8 (0#8)), (b8 (0#8)), (b8 (0#8)), (b8 (0#8)), (b8 (0#8)), (b8 (0#8)), (b8 (0#8)), (b8 (0#8)), (b8 (0#8)), (b8 (0#8)), (b8 (0#8)), (b8 (0#8)), (b8 (0#8)), (b8 (0#8)), (b8 (0#8)), (b8 (0#8)), (b8 (0#8)), (b8 (0#8)), (b8 (0#8)), (b8 (0#8)), (b8 (0#8)), (b8 (0#8)), (b8 (0#8)), (b8 (0#8)), (b8 (0#8))]) kr rfl rfl rfl rfl (fun g3 => ?_))
 refine L_nil ?_
 refine T_seq ?_
 refine T_regD [.blk g3 88 [(b8 (0#8)), (b8 (0#8)), (b8 (0#8)), (b8 (0#8)), (b8 (0#8)), (b8 (0#8)), (b8 (0#8)), (b8 (0#8)), (b8 (0#8)), (b8 (0#8)), (b8 (0#8)), (b8 (0#8)), (b8 (0#8)), (b8 (0#8)), (b8 (0#8)), (b8 (0#8)), (b8 (0#8)), (b8 (0#8)), (b8 (0#8)), (b8 (0#8)), (b8 (0#8)), (b8 (0#8)), (b8 (0#8)), (b8 (0#8)), (b8 (0#8)), (b8 (0#8)), (b8 (0#8)), (b8 (0#8)), (b8 (0#8)), (b8 (0#8)), (b8 (0#8)), (b8 (0#8)), (b8 (0#8)), (b8 (0#8)), (b8 (0#8)), (b8 (0#8)), (b8 (0#8)), (b8 (0#8)), (b8 (0#8)), (b8 (0#8)), (b8 (0#8)), (b8 (0#8)), (b8 (0#8)), (b8 (0#8))], .blk g2 59 [(.int .i64 (i64 pp)), (.int .i64 (i64 pr)), (.int .i64 (i64 pa)), (b64 pt), (.int .i64 (i64 pi))], .blk g1 50 (job.map b8)] 9 10 #[false, false, false, false, false, false, false, false, false, false] hF kr kr ?_
 refine D_pure (i := 3) [0, 1, 2] rfl kr rfl (pr_fa (m := 0) (m' := 3) (z := 0) (by rfl) Try.underlying59 rfl kr rfl rfl) (.inr rfl) rfl rfl ?_
 refine D_pure (i := 5) [0, 1, 2] rfl kr rfl (pr_fa (m := 0) (m' := 4) (z := 0) (by rfl) Try.underlying59 rfl kr rfl rfl) (.inr rfl) rfl rfl ?_
 refine D_take (i := 0) [0, 1, 2] rfl kr rfl (ld_agg (ds := (job.map b8)) 2 rfl agg_all Try.underlying50 rfl (fwz (n := 32) kr sd) rfl rfl) rfl rfl rfl ?_
 refine D_take (i := 1) [0, 1, 2] rfl kr rfl (ld_agg (ds := [(.int .i64 (i64 pp)), (.int .i64 (i64 pr)), (.int .i64 (i64 pa)), (b64 pt), (.int .i64 (i64 pi))]) 1 rfl agg_all Try.underlying59 rfl kr rfl rfl) rfl rfl rfl ?_
 refine D_take (i := 4) [0, 1, 2] rfl kr rfl (ld_blk 1 rfl rfl Try.underlying30 rfl rfl rfl) rfl rfl rfl ?_
 refine D_take (i := 6) [0, 1, 2] rfl kr rfl (ld_blk 1 rfl rfl Try.underlying3 rfl rfl rfl) rfl rfl rfl ?_
 refine D_one 2 _ rfl kr rfl (op_cn (fun w hw => kplace_f job pp pr pa pt pi w (hok_nil w) (by first | assumption | exact sd)) (enters_of Try.func67 kr rfl) rfl rfl rfl rfl rfl (fun t4 q5 => ?_))
 refine T_slot 7 _ (.agg ((pkey job pp pr pa).map b8).toArray) rfl (by rw [pkey_def]) ?_
 refine D_on [0, 1, 2] rfl ?_
 refine D_one 7 _ rfl kr rfl (op_cn (fun w hw => knonce_f pt pi w (hok_nil w) ) (enters_of Try.func68 kr rfl) rfl rfl rfl rfl rfl (fun t6 q7 => ?_))
 refine D_on [0, 1, 2] rfl ?_
 refine D_pure (i := 8) [0, 1, 2] rfl kr rfl (pr_build (qs := [(0, (.agg ((pkey job pp pr pa).map b8).toArray)), (1, (.agg ((nonc pt pi).map b8).toArray))]) (v := .agg (((pkey job pp pr pa) ++ (nonc pt pi)).map b8).toArray) (fun _ => run_build2b (n := 32) (m := 12) Try.underlying88 (z := .agg [(b8 (0#8)), (b8 (0#8)), (b8 (0#8)), (b8 (0#8)), (b8 (0#8)), (b8 (0#8)), (b8 (0#8)), (b8 (0#8)), (b8 (0#8)), (b8 (0#8)), (b8 (0#8)), (b8 (0#8)), (b8 (0#8)), (b8 (0#8)), (b8 (0#8)), (b8 (0#8)), (b8 (0#8)), (b8 (0#8)), (b8 (0#8)), (b8 (0#8)), (b8 (0#8)), (b8 (0#8)), (b8 (0#8)), (b8 (0#8)), (b8 (0#8)), (b8 (0#8)), (b8 (0#8)), (b8 (0#8)), (b8 (0#8)), (b8 (0#8)), (b8 (0#8)), (b8 (0#8)), (b8 (0#8)), (b8 (0#8)), (b8 (0#8)), (b8 (0#8)), (b8 (0#8)), (b8 (0#8)), (b8 (0#8)), (b8 (0#8)), (b8 (0#8)), (b8 (0#8)), (b8 (0#8)), (b8 (0#8))].toArray) kr rfl rfl rfl kr kr sd sd) rfl rfl) (.inr rfl) rfl rfl ?_
 refine D_one 9 _ rfl kr rfl (op_sto (n := 44) (vs := (((pkey job pp pr pa) ++ (nonc pt pi)).map b8)) 0 rfl rfl kr (all8_one _) kr sd rfl rfl rfl rfl ?_)
 refine D_past kr ?_
 refine D_done kr ?_
 refine T_ret ?_
 exact T_fin () (by first | trivial | omega | (simp; done)) (resb 0 rfl rfl rfl Try.underlying88 rfl (fwz (n := 44) kr sd)) [] ⟨by decide, rfl⟩ rfl
set_option maxRecDepth 100000 in
set_option maxHeartbeats 4000000 in
theorem bseal_f (job : List (BitVec 8)) (pp : BitVec 64) (pr : BitVec 64) (pa : BitVec 64) (pt : BitVec 64) (pi : BitVec 64) (xs : List Rc) (A : Option Addr) (n : Nat) (c : Nat) (q : Nat) (w : World) (hO : HOK [.rd A 4 n c (rcs xs)] w) (hj : job.length = 32) (hx : xs.length = n) (hq1 : 1 ≤ q) (hq8 : q ≤ 8) (hnq : n ≤ q) : Calls Try.prog 31 [(.agg (job.map b8).toArray), (.agg [(.int .i64 (i64 pp)), (.int .i64 (i64 pr)), (.int .i64 (i64 pa)), (b64 pt), (.int .i64 (i64 pi))].toArray), (.slice A n c), (.int .i64 ((q : Nat) : Int))].toArray w (Ret (T := Option Addr × Nat) [] w (fun ⟨B, d⟩ => True) (fun ⟨B, d⟩ => (.tuple [(.slice B (32 * q + 16) d), (.int .i64 ((0 : Nat) : Int))].toArray)) (fun ⟨B, d⟩ => [.row (.slice B (32 * q + 16) d) 5 1 (32 * q + 16) ((aseal (pkey job pp pr pa) (nonc pt pi) (paad pp pr pa pt pi q) (bpb xs ((q : Nat) : Int))).map b8)])) := by
 have hpk := pkey_len job pp pr pa
 have hnn := nonc_len pt pi
 have huu : ((pkey job pp pr pa) ++ (nonc pt pi)).length = 44 := by rw [List.length_append, hpk, hnn]
 have haa := paad_len pp pr pa pt pi q
 have hbl := bpl_q hq1 hq8 hnq
 have hbe := bpe_q hq1 hq8 hnq
 have hpl : (bpb xs ((q : Nat) : Int)).length = 32 * q := (bpb_len hx).trans hbl
 have hF : Wid Fence.wide := wid_wide
 refine enter (c := _) Try.func31 rfl [] _ [.rd A 4 n c (rcs xs)] (by rw [Try.ntmps31]; rfl) (own_rds hO rfl) ?_
 rw [Try.ntmps31]
 refine T_re [(0, (.agg (job.map b8).toArray)), (1, (.agg [(.int .i64 (i64 pp)), (.int .i64 (i64 pr)), (.int .i64 (i64 pa)), (b64 pt), (.int .i64 (i64 pi))].toArray)), (2, (.slice A n c)), (3, (.int .i64 ((q : Nat) : Int)))] (sc rfl (sc rfl (sc rfl (sc rfl sn)))) ?_
 refine T_he [0] [.rd A 4 n c (rcs xs)] ⟨by decide, rfl⟩ ?_
 refine Tsr hF rfl ?_
 refine L_op rfl (op_box (zs := (job.map b8)) rfl rfl rfl rfl rfl (fun g1 => ?_))
 refine L_op rfl (op_box (zs := [(.int .i64 (i64 pp)), (.int .i64 (i64 pr)), (.int .i64 (i64 pa)), (b64 pt), (.int .i64 (i64 pi))]) rfl rfl rfl rfl rfl (fun g2 => ?_))
 refine la rfl rfl rfl rfl rfl ?_
 refine la rfl rfl rfl rfl rfl ?_
 refine L_nil ?_
 refine Tsr hF rfl ?_
 refine lm rfl rfl rfl rfl rfl ?_
 refine lm rfl rfl rfl rfl rfl ?_
 refine L_op rfl (op_cn (fun w hw => bpack_f xs ((q : Nat) : Int) A n c w (hok_cons ((src_rd 2 rfl) w hw) (hok_nil w)) sd sd) (enters_of Try.func9 kr rfl) rfl rfl rfl rfl rfl (fun t3 q4 => ?_))
 obtain ⟨B5, e6⟩ := t3
 refine lm rfl rfl rfl rfl rfl ?_
 refine lo rfl (pr_ext (vs := [(.slice B5 (bpl n ((q : Nat) : Int)) e6), (.int .i64 (((bpe n ((q : Nat) : Int)) : Nat) : Int))]) rfl rfl rfl) rfl rfl ?_
 refine T_slot 17 (.slice B5 (bpl n ((q : Nat) : Int)) e6) (.slice B5 (32 * q) e6) rfl (by rw [hbl]) ?_
 refine T_as 0 _ (.row (.slice B5 (32 * q) e6) 5 1 (32 * q) ((bpb xs ((q : Nat) : Int)).map b8)) rfl (by rw [hbl]) ?_
 refine lo rfl (pr_ext (vs := [(.slice B5 (bpl n ((q : Nat) : Int)) e6), (.int .i64 (((bpe n ((q : Nat) : Int)) : Nat) : Int))]) rfl rfl rfl) rfl rfl ?_
 refine T_slot 18 (.int .i64 (((bpe n ((q : Nat) : Int)) : Nat) : Int)) (.int .i64 ((0 : Nat) : Int)) rfl (by rw [hbe]) ?_
 refine la rfl rfl rfl rfl rfl ?_
 refine la rfl rfl rfl rfl rfl ?_
 refine L_nil ?_
 refine T_seq ?_
 refine Tsr hF rfl ?_
 refine lm rfl rfl rfl rfl rfl ?_
 refine lo rfl (pr_cmp (bo := .neq) (nc_ne (a := 0) (b := 0)) rfl rfl rfl rfl) rfl rfl ?_
 refine L_nil ?_
 refine T_cond_f rfl ?_
 refine T_skip ?_
 refine Tsr hF rfl ?_
 refine lq rfl (ld_agg (ds := (job.map b8)) 2 rfl agg_all Try.underlying50 rfl (fwz (n := 32) kr sd) rfl rfl) rfl rfl ?_
 refine lq rfl (ld_agg (ds := [(.int .i64 (i64 pp)), (.int .i64 (i64 pr)), (.int .i64 (i64 pa)), (b64 pt), (.int .i64 (i64 pi))]) 1 rfl agg_all Try.underlying59 rfl kr rfl rfl) rfl rfl ?_
 refine L_op rfl (op_cn (fun w hw => buse_f job pp pr pa pt pi w (hok_nil w) (by first | assumption | exact sd)) (enters_of Try.func53 kr rfl) rfl rfl rfl rfl rfl (fun t7 q8 => ?_))
 refine L_op rfl (op_alloc (z := .agg [(b8 (0#8)), (b8 (0#8)), (b8 (0#8)), (b8 (0#8)), (b8 (0#8)), (b8 (0#8)), (b8 (0#8)), (b8 (0#8)), (b8 (0#8)), (b8 (0#8)), (b8 (0#8)), (b8 (0#8)), (b8 (0#8)), (b8 (0#8)), (b8 (0#8)), (b8 (0#8)), (b8 (0#8)), (b8 (0#8)), (b8 (0#8)), (b8 (0#8)), (b8 (0#8)), (b8 (0#8)), (b8 (0#8)), (b8 (0#8)), (b8 (0#8)), (b8 (0#8)), (b8 (0#8)), (b8 (0#8)), (b8 (0#8)), (b8 (0#8)), (b8 (0#8)), (b8 (0#8)), (b8 (0#8)), (b8 (0#8)), (b8 (0#8)), (b8 (0#8)), (b8 (0#8)), (b8 (0#8)), (b8 (0#8)), (b8 (0#8)), (b8 (0#8)), (b8 (0#8)), (b8 (0#8)), (b8 (0#8))].toArray) (zs := [(b8 (0#8)), (b8 (0#8)), (b8 (0#8)), (b8 (0#8)), (b8 (0#8)), (b8 (0#8)), (b8 (0#8)), (b8 (0#8)), (b8 (0#8)), (b8 (0#8)), (b8 (0#8)), (b8 (0#8)), (b8 (0#8)), (b8 (0#8)), (b8 (0#8)), (b8 (0#8)), (b8 (0#8)), (b8 (0#8)), (b8 (0#8)), (b8 (0#8)), (b8 (0#8)), (b8 (0#8)), (b8 (0#8)), (b8 (0#8)), (b8 (0#8)), (b8 (0#8)), (b8 (0#8)), (b8 (0#8)), (b8 (0#8)), (b8 (0#8)), (b8 (0#8)), (b8 (0#8)), (b8 (0#8)), (b8 (0#8)), (b8 (0#8)), (b8 (0#8)), (b8 (0#8)), (b8 (0#8)), (b8 (0#8)), (b8 (0#8)), (b8 (0#8)), (b8 (0#8)), (b8 (0#8)), (b8 (0#8))]) kr rfl rfl rfl rfl (fun g9 => ?_))
 refine L_op rfl (op_sto (n := 44) (vs := (((pkey job pp pr pa) ++ (nonc pt pi)).map b8)) 0 rfl rfl kr (all8_one _) kr sd rfl rfl rfl rfl ?_)
 refine L_nil ?_
 refine T_seq ?_
 refine T_regD [.blk g9 88 (((pkey job pp pr pa) ++ (nonc pt pi)).map b8), .row (.slice B5 (32 * q) e6) 5 1 (32 * q) ((bpb xs ((q : Nat) : Int)).map b8), .blk g2 59 [(.int .i64 (i64 pp)), (.int .i64 (i64 pr)), (.int .i64 (i64 pa)), (b64 pt), (.int .i64 (i64 pi))], .blk g1 50 (job.map b8), .rd A 4 n c (rcs xs)] 14 14 #[false, false, false, false, false, false, false, false, false, false, false, false, false, false] hF kr kr ?_
 refine D_pure (i := 0) [0, 1, 2, 3, 4] rfl kr rfl (pr_fa (m := 0) (m' := 0) (z := 31) (by rfl) Try.underlying88 rfl kr rfl rfl) (.inr rfl) rfl rfl ?_
 refine D_pure (i := 2) [0, 1, 2, 3, 4] rfl kr rfl (pr_fa (m := 0) (m' := 32) (z := 11) (by rfl) Try.underlying88 rfl kr rfl rfl) (.inr rfl) rfl rfl ?_
 refine D_pure (i := 5) [0, 1, 2, 3, 4] rfl kr rfl (pr_move rfl rfl) (.inr rfl) rfl rfl ?_
 refine D_pure (i := 6) [0, 1, 2, 3, 4] rfl kr rfl (pr_len_sl Try.underlying23 rfl rfl) (.inr rfl) rfl rfl ?_
 refine D_pure (i := 8) [0, 1, 2, 3, 4] rfl kr rfl (pr_move rfl rfl) (.inr rfl) rfl rfl ?_
 refine D_take (i := 1) [0, 1, 2, 3, 4] rfl kr rfl (ld_agg (ds := ((List.take 32 ((pkey job pp pr pa) ++ (nonc pt pi))).map b8)) 0 rfl (by simp [List.map_take, List.map_drop]) Try.underlying50 rfl (fwz (n := 32) kr sd) rfl rfl) rfl rfl rfl ?_
 refine T_slot 26 _ (.agg ((pkey job pp pr pa).map b8).toArray) rfl (by rw [ptake hpk]) ?_
 refine D_take (i := 3) [0, 1, 2, 3, 4] rfl kr rfl (ld_agg (ds := ((List.take 12 (List.drop 32 ((pkey job pp pr pa) ++ (nonc pt pi)))).map b8)) 0 rfl (by simp [List.map_take, List.map_drop]) Try.underlying86 rfl (fwz (n := 12) kr sd) rfl rfl) rfl rfl rfl ?_
 refine T_slot 28 _ (.agg ((nonc pt pi).map b8).toArray) rfl (by rw [pdrop hpk hnn]) ?_
 refine D_take (i := 4) [0, 1, 2, 3, 4] rfl kr rfl (ld_agg (ds := [(.int .i64 (i64 pp)), (.int .i64 (i64 pr)), (.int .i64 (i64 pa)), (b64 pt), (.int .i64 (i64 pi))]) 2 rfl agg_all Try.underlying59 rfl kr rfl rfl) rfl rfl rfl ?_
 refine D_one 7 _ rfl kr rfl (op_cn (fun w hw => kaad_f pp pr pa pt pi (32 * q) w (hok_nil w) sd) (enters_of Try.func55 kr rfl) rfl rfl rfl rfl rfl (fun t10 q11 => ?_))
 obtain ⟨B12, d13⟩ := t10
 refine T_as 0 _ (.old B12 1 48 d13 ((paad pp pr pa pt pi q).map b8)) rfl (by rw [paad_def]) ?_
 refine D_on [1, 2, 3, 4, 5] rfl ?_
 refine D_one 9 _ rfl kr rfl (op_cn (fun w hw => seal_f (pkey job pp pr pa) (nonc pt pi) (paad pp pr pa pt pi q) (bpb xs ((q : Nat) : Int)) B12 48 d13 B5 (32 * q) e6 w (hok_cons ((src_old 0 rfl) w hw) (hok_cons ((src_row 2 rfl) w hw) (hok_nil w))) (by first | assumption | exact sd) (by first | assumption | exact sd) (by first | assumption | exact sd) hpl sd sd) (enters_of Try.func54 kr rfl) rfl rfl rfl rfl rfl (fun t14 q15 => ?_))
 obtain ⟨B16, d17⟩ := t14
 refine D_on [2, 3, 4, 5, 6] rfl ?_
 refine D_pure (i := 10) [2, 3, 4, 5, 6] rfl kr rfl (pr_ext (vs := [(.slice B16 ((32 * q) + 16) d17), (.int .i64 ((0 : Nat) : Int))]) rfl rfl rfl) (.inr rfl) rfl rfl ?_
 refine D_pure (i := 11) [2, 3, 4, 5, 6] rfl kr rfl (pr_ext (vs := [(.slice B16 ((32 * q) + 16) d17), (.int .i64 ((0 : Nat) : Int))]) rfl rfl rfl) (.inr rfl) rfl rfl ?_
 refine D_pure (i := 12) [2, 3, 4, 5, 6] rfl kr rfl (pr_assign rfl rfl) (.inr rfl) rfl rfl ?_
 refine D_pure (i := 13) [2, 3, 4, 5, 6] rfl kr rfl (pr_assign rfl rfl) (.inr rfl) rfl rfl ?_
 refine D_done kr ?_
 refine T_ret ?_
 refine T_slot 8 (.slice B16 ((32 * q) + 16) d17) (.slice B16 (32 * q + 16) d17) rfl (by first | rfl | (simp; done)) ?_
 refine T_as 0 _ (.row (.slice B16 (32 * q + 16) d17) 5 1 (32 * q + 16) ((aseal (pkey job pp pr pa) (nonc pt pi) (paad pp pr pa pt pi q) (bpb xs ((q : Nat) : Int))).map b8)) rfl (by first | rfl | simp | (congr 1; simp)) ?_
 exact T_fin (B16, d17) (by first | trivial | omega | (simp; done)) (res2 rfl rfl rfl) [0] ⟨by decide, rfl⟩ rfl
set_option maxRecDepth 100000 in
set_option maxHeartbeats 4000000 in
theorem bseal_no_f (job : List (BitVec 8)) (pp : BitVec 64) (pr : BitVec 64) (pa : BitVec 64) (pt : BitVec 64) (pi : BitVec 64) (xs : List Rc) (A : Option Addr) (n : Nat) (c : Nat) (z : Int) (w : World) (hO : HOK [.rd A 4 n c (rcs xs)] w) (hj : job.length = 32) (hx : xs.length = n) (hn : n ≤ 1000) (he : ¬ bpe n z = 0) : Calls Try.prog 31 [(.agg (job.map b8).toArray), (.agg [(.int .i64 (i64 pp)), (.int .i64 (i64 pr)), (.int .i64 (i64 pa)), (b64 pt), (.int .i64 (i64 pi))].toArray), (.slice A n c), (.int .i64 z)].toArray w (Ret (T := Unit) [] w (fun _ => True) (fun _ => (.tuple [(.slice none 0 0), (.int .i64 (((bpe n z) : Nat) : Int))].toArray)) (fun _ => [])) := by
 have hF : Wid Fence.wide := wid_wide
 refine enter (c := _) Try.func31 rfl [] _ [.rd A 4 n c (rcs xs)] (by rw [Try.ntmps31]; rfl) (own_rds hO rfl) ?_
 rw [Try.ntmps31]
 refine T_re [(0, (.agg (job.map b8).toArray)), (1, (.agg [(.int .i64 (i64 pp)), (.int .i64 (i64 pr)), (.int .i64 (i64 pa)), (b64 pt), (.int .i64 (i64 pi))].toArray)), (2, (.slice A n c)), (3, (.int .i64 z))] (sc rfl (sc rfl (sc rfl (sc rfl sn)))) ?_
 refine T_he [0] [.rd A 4 n c (rcs xs)] ⟨by decide, rfl⟩ ?_
 refine Tsr hF rfl ?_
 refine L_op rfl (op_box (zs := (job.map b8)) rfl rfl rfl rfl rfl (fun g1 => ?_))
 refine L_op rfl (op_box (zs := [(.int .i64 (i64 pp)), (.int .i64 (i64 pr)), (.int .i64 (i64 pa)), (b64 pt), (.int .i64 (i64 pi))]) rfl rfl rfl rfl rfl (fun g2 => ?_))
 refine la rfl rfl rfl rfl rfl ?_
 refine la rfl rfl rfl rfl rfl ?_
 refine L_nil ?_
 refine Tsr hF rfl ?_
 refine lm rfl rfl rfl rfl rfl ?_
 refine lm rfl rfl rfl rfl rfl ?_
 refine L_op rfl (op_cn (fun w hw => bpack_f xs z A n c w (hok_cons ((src_rd 2 rfl) w hw) (hok_nil w)) sd sd) (enters_of Try.func9 kr rfl) rfl rfl rfl rfl rfl (fun t3 q4 => ?_))
 obtain ⟨B5, e6⟩ := t3
 refine lm rfl rfl rfl rfl rfl ?_
 refine lo rfl (pr_ext (vs := [(.slice B5 (bpl n z) e6), (.int .i64 (((bpe n z) : Nat) : Int))]) rfl rfl rfl) rfl rfl ?_
 refine lo rfl (pr_ext (vs := [(.slice B5 (bpl n z) e6), (.int .i64 (((bpe n z) : Nat) : Int))]) rfl rfl rfl) rfl rfl ?_
 refine la rfl rfl rfl rfl rfl ?_
 refine la rfl rfl rfl rfl rfl ?_
 refine L_nil ?_
 refine T_seq ?_
 refine Tsr hF rfl ?_
 refine lm rfl rfl rfl rfl rfl ?_
 refine lo rfl (pr_cmp (bo := .neq) (nc_ne (a := (bpe n z)) (b := 0)) rfl rfl rfl rfl) rfl rfl ?_
 refine L_nil ?_
 refine T_cond_yes (t := ((bpe n z) != 0)) rfl (by simp; exact he) ?_
 refine Tsr hF rfl ?_
 refine lm rfl rfl rfl rfl rfl ?_
 refine la rfl rfl rfl rfl rfl ?_
 refine la rfl rfl rfl rfl rfl ?_
 refine L_nil ?_
 refine T_ret ?_
 exact T_fin () (by first | trivial | omega | (simp; done)) (res2 rfl rfl rfl) [] ⟨by decide, rfl⟩ rfl
set_option maxRecDepth 100000 in
set_option maxHeartbeats 4000000 in
theorem bopen_ok_f (job : List (BitVec 8)) (pp : BitVec 64) (pr : BitVec 64) (pa : BitVec 64) (pt : BitVec 64) (pi : BitVec 64) (b : List (BitVec 8)) (A : Option Addr) (n : Nat) (c : Nat) (q : Nat) (w : World) (hO : HOK [.rd A 1 n c (b.map b8)] w) (hj : job.length = 32) (hb : b.length = n) (hq1 : 1 ≤ q) (hq8 : q ≤ 8) (h4 : 16 ≤ n) (h5 : n ≤ 65552) (hg : agood (pkey job pp pr pa) (nonc pt pi) (paad pp pr pa pt pi q) b) : Calls Try.prog 32 [(.agg (job.map b8).toArray), (.agg [(.int .i64 (i64 pp)), (.int .i64 (i64 pr)), (.int .i64 (i64 pa)), (b64 pt), (.int .i64 (i64 pi))].toArray), (.int .i64 ((q : Nat) : Int)), (.slice A n c)].toArray w (Ret (T := Option Addr × Nat) [] w (fun ⟨E, e⟩ => True) (fun ⟨E, e⟩ => (.tuple [(.slice E (btn (aplain (pkey job pp pr pa) (nonc pt pi) b) ((q : Nat) : Int)) e), (.int .i64 (((bte (aplain (pkey job pp pr pa) (nonc pt pi) b) ((q : Nat) : Int)) : Nat) : Int))].toArray)) (fun ⟨E, e⟩ => [.row (.slice E (btn (aplain (pkey job pp pr pa) (nonc pt pi) b) ((q : Nat) : Int)) e) 43 4 (btn (aplain (pkey job pp pr pa) (nonc pt pi) b) ((q : Nat) : Int)) (rcs (btk (aplain (pkey job pp pr pa) (nonc pt pi) b) ((q : Nat) : Int)))])) := by
 have hpk := pkey_len job pp pr pa
 have hnn := nonc_len pt pi
 have huu : ((pkey job pp pr pa) ++ (nonc pt pi)).length = 44 := by rw [List.length_append, hpk, hnn]
 have haa := paad_len pp pr pa pt pi q
 have hmq := mayb_q hq1 hq8
 have hal := aplain_len (pkey job pp pr pa) (nonc pt pi) b
 have hF : Wid Fence.wide := wid_wide
 refine enter (c := _) Try.func32 rfl [] _ [.rd A 1 n c (b.map b8)] (by rw [Try.ntmps32]; rfl) (own_rds hO rfl) ?_
 rw [Try.ntmps32]
 refine T_re [(0, (.agg (job.map b8).toArray)), (1, (.agg [(.int .i64 (i64 pp)), (.int .i64 (i64 pr)), (.int .i64 (i64 pa)), (b64 pt), (.int .i64 (i64 pi))].toArray)), (2, (.int .i64 ((q : Nat) : Int))), (3, (.slice A n c))] (sc rfl (sc rfl (sc rfl (sc rfl sn)))) ?_
 refine T_he [0] [.rd A 1 n c (b.map b8)] ⟨by decide, rfl⟩ ?_
 refine Tsr hF rfl ?_
 refine L_op rfl (op_box (zs := (job.map b8)) rfl rfl rfl rfl rfl (fun g1 => ?_))
 refine L_op rfl (op_box (zs := [(.int .i64 (i64 pp)), (.int .i64 (i64 pr)), (.int .i64 (i64 pa)), (b64 pt), (.int .i64 (i64 pi))]) rfl rfl rfl rfl rfl (fun g2 => ?_))
 refine la rfl rfl rfl rfl rfl ?_
 refine la rfl rfl rfl rfl rfl ?_
 refine L_nil ?_
 refine T_seq ?_
 refine Tsr hF rfl ?_
 refine lm rfl rfl rfl rfl rfl ?_
 refine L_op rfl (op_cn (fun w hw => may_f ((q : Nat) : Int) w (hok_nil w) ) (enters_of Try.func33 kr rfl) rfl rfl rfl rfl rfl (fun t3 q4 => ?_))
 refine lo rfl (pr_un rfl rfl rfl) rfl rfl ?_
 refine L_nil ?_
 refine T_cond_no (t := !(mayb ((q : Nat) : Int))) rfl (by rw [hmq]; rfl) ?_
 refine T_skip ?_
 refine Tsr hF rfl ?_
 refine lq rfl (ld_agg (ds := (job.map b8)) 1 rfl agg_all Try.underlying50 rfl (fwz (n := 32) kr sd) rfl rfl) rfl rfl ?_
 refine lq rfl (ld_agg (ds := [(.int .i64 (i64 pp)), (.int .i64 (i64 pr)), (.int .i64 (i64 pa)), (b64 pt), (.int .i64 (i64 pi))]) 0 rfl agg_all Try.underlying59 rfl kr rfl rfl) rfl rfl ?_
 refine L_op rfl (op_cn (fun w hw => buse_f job pp pr pa pt pi w (hok_nil w) (by first | assumption | exact sd)) (enters_of Try.func53 kr rfl) rfl rfl rfl rfl rfl (fun t5 q6 => ?_))
 refine L_op rfl (op_alloc (z := .agg [(b8 (0#8)), (b8 (0#8)), (b8 (0#8)), (b8 (0#8)), (b8 (0#8)), (b8 (0#8)), (b8 (0#8)), (b8 (0#8)), (b8 (0#8)), (b8 (0#8)), (b8 (0#8)), (b8 (0#8)), (b8 (0#8)), (b8 (0#8)), (b8 (0#8)), (b8 (0#8)), (b8 (0#8)), (b8 (0#8)), (b8 (0#8)), (b8 (0#8)), (b8 (0#8)), (b8 (0#8)), (b8 (0#8)), (b8 (0#8)), (b8 (0#8)), (b8 (0#8)), (b8 (0#8)), (b8 (0#8)), (b8 (0#8)), (b8 (0#8)), (b8 (0#8)), (b8 (0#8)), (b8 (0#8)), (b8 (0#8)), (b8 (0#8)), (b8 (0#8)), (b8 (0#8)), (b8 (0#8)), (b8 (0#8)), (b8 (0#8)), (b8 (0#8)), (b8 (0#8)), (b8 (0#8)), (b8 (0#8))].toArray) (zs := [(b8 (0#8)), (b8 (0#8)), (b8 (0#8)), (b8 (0#8)), (b8 (0#8)), (b8 (0#8)), (b8 (0#8)), (b8 (0#8)), (b8 (0#8)), (b8 (0#8)), (b8 (0#8)), (b8 (0#8)), (b8 (0#8)), (b8 (0#8)), (b8 (0#8)), (b8 (0#8)), (b8 (0#8)), (b8 (0#8)), (b8 (0#8)), (b8 (0#8)), (b8 (0#8)), (b8 (0#8)), (b8 (0#8)), (b8 (0#8)), (b8 (0#8)), (b8 (0#8)), (b8 (0#8)), (b8 (0#8)), (b8 (0#8)), (b8 (0#8)), (b8 (0#8)), (b8 (0#8)), (b8 (0#8)), (b8 (0#8)), (b8 (0#8)), (b8 (0#8)), (b8 (0#8)), (b8 (0#8)), (b8 (0#8)), (b8 (0#8)), (b8 (0#8)), (b8 (0#8)), (b8 (0#8)), (b8 (0#8))]) kr rfl rfl rfl rfl (fun g7 => ?_))
 refine L_op rfl (op_sto (n := 44) (vs := (((pkey job pp pr pa) ++ (nonc pt pi)).map b8)) 0 rfl rfl kr (all8_one _) kr sd rfl rfl rfl rfl ?_)
 refine L_nil ?_
 refine T_seq ?_
 refine T_regD [.blk g7 88 (((pkey job pp pr pa) ++ (nonc pt pi)).map b8), .blk g2 59 [(.int .i64 (i64 pp)), (.int .i64 (i64 pr)), (.int .i64 (i64 pa)), (b64 pt), (.int .i64 (i64 pi))], .blk g1 50 (job.map b8), .rd A 1 n c (b.map b8)] 15 15 #[false, false, false, false, false, false, false, false, false, false, false, false, false, false, false] hF kr kr ?_
 refine D_pure (i := 0) [0, 1, 2, 3] rfl kr rfl (pr_fa (m := 0) (m' := 0) (z := 31) (by rfl) Try.underlying88 rfl kr rfl rfl) (.inr rfl) rfl rfl ?_
 refine D_pure (i := 2) [0, 1, 2, 3] rfl kr rfl (pr_fa (m := 0) (m' := 32) (z := 11) (by rfl) Try.underlying88 rfl kr rfl rfl) (.inr rfl) rfl rfl ?_
 refine D_pure (i := 5) [0, 1, 2, 3] rfl kr rfl (pr_move rfl rfl) (.inr rfl) rfl rfl ?_
 refine D_pure (i := 6) [0, 1, 2, 3] rfl kr rfl (pr_mul (nm_i64 (a := q) (b := 32) sd) rfl rfl rfl) (.inr rfl) rfl rfl ?_
 refine T_slot 26 (.int .i64 ((q * 32 : Nat) : Int)) (.int .i64 ((32 * q : Nat) : Int)) rfl (by rw [Nat.mul_comm]) ?_
 refine D_pure (i := 8) [0, 1, 2, 3] rfl kr rfl (pr_move rfl rfl) (.inr rfl) rfl rfl ?_
 refine D_take (i := 1) [0, 1, 2, 3] rfl kr rfl (ld_agg (ds := ((List.take 32 ((pkey job pp pr pa) ++ (nonc pt pi))).map b8)) 0 rfl (by simp [List.map_take, List.map_drop]) Try.underlying50 rfl (fwz (n := 32) kr sd) rfl rfl) rfl rfl rfl ?_
 refine T_slot 21 _ (.agg ((pkey job pp pr pa).map b8).toArray) rfl (by rw [ptake hpk]) ?_
 refine D_take (i := 3) [0, 1, 2, 3] rfl kr rfl (ld_agg (ds := ((List.take 12 (List.drop 32 ((pkey job pp pr pa) ++ (nonc pt pi)))).map b8)) 0 rfl (by simp [List.map_take, List.map_drop]) Try.underlying86 rfl (fwz (n := 12) kr sd) rfl rfl) rfl rfl rfl ?_
 refine T_slot 23 _ (.agg ((nonc pt pi).map b8).toArray) rfl (by rw [pdrop hpk hnn]) ?_
 refine D_take (i := 4) [0, 1, 2, 3] rfl kr rfl (ld_agg (ds := [(.int .i64 (i64 pp)), (.int .i64 (i64 pr)), (.int .i64 (i64 pa)), (b64 pt), (.int .i64 (i64 pi))]) 1 rfl agg_all Try.underlying59 rfl kr rfl rfl) rfl rfl rfl ?_
 refine D_one 7 _ rfl kr rfl (op_cn (fun w hw => kaad_f pp pr pa pt pi (32 * q) w (hok_nil w) sd) (enters_of Try.func55 kr rfl) rfl rfl rfl rfl rfl (fun t8 q9 => ?_))
 obtain ⟨B10, d11⟩ := t8
 refine T_as 0 _ (.old B10 1 48 d11 ((paad pp pr pa pt pi q).map b8)) rfl (by rw [paad_def]) ?_
 refine D_on [1, 2, 3, 4] rfl ?_
 refine D_one 9 _ rfl kr rfl (op_cn (fun w hw => open_ok_f (pkey job pp pr pa) (nonc pt pi) (paad pp pr pa pt pi q) b B10 48 d11 A n c w (hok_cons ((src_old 0 rfl) w hw) (hok_cons ((src_rd 4 rfl) w hw) (hok_nil w))) (by first | assumption | exact sd) (by first | assumption | exact sd) (by first | assumption | exact sd) (by first | assumption | exact sd) sd sd sd hg) (enters_of Try.func56 kr rfl) rfl rfl rfl rfl rfl (fun t12 q13 => ?_))
 obtain ⟨B14, d15⟩ := t12
 refine D_on [2, 3, 4, 5] rfl ?_
 refine D_pure (i := 10) [2, 3, 4, 5] rfl kr rfl (pr_move rfl rfl) (.inr rfl) rfl rfl ?_
 refine D_pure (i := 11) [2, 3, 4, 5] rfl kr rfl (pr_ext (vs := [(.slice B14 (n - 16) d15), (.int .i64 ((0 : Nat) : Int))]) rfl rfl rfl) (.inr rfl) rfl rfl ?_
 refine D_pure (i := 12) [2, 3, 4, 5] rfl kr rfl (pr_ext (vs := [(.slice B14 (n - 16) d15), (.int .i64 ((0 : Nat) : Int))]) rfl rfl rfl) (.inr rfl) rfl rfl ?_
 refine D_pure (i := 13) [2, 3, 4, 5] rfl kr rfl (pr_assign rfl rfl) (.inr rfl) rfl rfl ?_
 refine D_pure (i := 14) [2, 3, 4, 5] rfl kr rfl (pr_assign rfl rfl) (.inr rfl) rfl rfl ?_
 refine D_done kr ?_
 refine T_seq ?_
 refine Tsr hF rfl ?_
 refine lm rfl rfl rfl rfl rfl ?_
 refine lo rfl (pr_cmp (bo := .neq) (nc_ne (a := 0) (b := 0)) rfl rfl rfl rfl) rfl rfl ?_
 refine L_nil ?_
 refine T_cond_f rfl ?_
 refine T_skip ?_
 refine Tsr hF rfl ?_
 refine lm rfl rfl rfl rfl rfl ?_
 refine lm rfl rfl rfl rfl rfl ?_
 refine L_op rfl (op_cn (fun w hw => btake_f (aplain (pkey job pp pr pa) (nonc pt pi) b) ((q : Nat) : Int) B14 (n - 16) d15 w (hok_cons ((src_row 0 rfl) w hw) (hok_nil w)) sd sd) (enters_of Try.func21 kr rfl) rfl rfl rfl rfl rfl (fun t16 q17 => ?_))
 obtain ⟨B18, e19⟩ := t16
 refine lo rfl (pr_ext (vs := [(.slice B18 (btn (aplain (pkey job pp pr pa) (nonc pt pi) b) ((q : Nat) : Int)) e19), (.int .i64 (((bte (aplain (pkey job pp pr pa) (nonc pt pi) b) ((q : Nat) : Int)) : Nat) : Int))]) rfl rfl rfl) rfl rfl ?_
 refine lo rfl (pr_ext (vs := [(.slice B18 (btn (aplain (pkey job pp pr pa) (nonc pt pi) b) ((q : Nat) : Int)) e19), (.int .i64 (((bte (aplain (pkey job pp pr pa) (nonc pt pi) b) ((q : Nat) : Int)) : Nat) : Int))]) rfl rfl rfl) rfl rfl ?_
 refine la rfl rfl rfl rfl rfl ?_
 refine la rfl rfl rfl rfl rfl ?_
 refine L_nil ?_
 refine T_ret ?_
 exact T_fin (B18, e19) (by first | trivial | omega | (simp; done)) (res2 rfl rfl rfl) [0] ⟨by decide, rfl⟩ rfl
set_option maxRecDepth 100000 in
set_option maxHeartbeats 4000000 in
theorem bopen_bad_f (job : List (BitVec 8)) (pp : BitVec 64) (pr : BitVec 64) (pa : BitVec 64) (pt : BitVec 64) (pi : BitVec 64) (b : List (BitVec 8)) (A : Option Addr) (n : Nat) (c : Nat) (q : Nat) (w : World) (hO : HOK [.rd A 1 n c (b.map b8)] w) (hj : job.length = 32) (hb : b.length = n) (hq1 : 1 ≤ q) (hq8 : q ≤ 8) (h4 : 16 ≤ n) (h5 : n ≤ 65552) (hg : ¬ agood (pkey job pp pr pa) (nonc pt pi) (paad pp pr pa pt pi q) b) : Calls Try.prog 32 [(.agg (job.map b8).toArray), (.agg [(.int .i64 (i64 pp)), (.int .i64 (i64 pr)), (.int .i64 (i64 pa)), (b64 pt), (.int .i64 (i64 pi))].toArray), (.int .i64 ((q : Nat) : Int)), (.slice A n c)].toArray w (Ret (T := Unit) [] w (fun _ => True) (fun _ => (.tuple [(.slice none 0 0), (.int .i64 ((6 : Nat) : Int))].toArray)) (fun _ => [])) := by
 have hpk := pkey_len job pp pr pa
 have hnn := nonc_len pt pi
 have huu : ((pkey job pp pr pa) ++ (nonc pt pi)).length = 44 := by rw [List.length_append, hpk, hnn]
 have haa := paad_len pp pr pa pt pi q
 have hmq := mayb_q hq1 hq8
 have hF : Wid Fence.wide := wid_wide
 refine enter (c := _) Try.func32 rfl [] _ [.rd A 1 n c (b.map b8)] (by rw [Try.ntmps32]; rfl) (own_rds hO rfl) ?_
 rw [Try.ntmps32]
 refine T_re [(0, (.agg (job.map b8).toArray)), (1, (.agg [(.int .i64 (i64 pp)), (.int .i64 (i64 pr)), (.int .i64 (i64 pa)), (b64 pt), (.int .i64 (i64 pi))].toArray)), (2, (.int .i64 ((q : Nat) : Int))), (3, (.slice A n c))] (sc rfl (sc rfl (sc rfl (sc rfl sn)))) ?_
 refine T_he [0] [.rd A 1 n c (b.map b8)] ⟨by decide, rfl⟩ ?_
 refine Tsr hF rfl ?_
 refine L_op rfl (op_box (zs := (job.map b8)) rfl rfl rfl rfl rfl (fun g1 => ?_))
 refine L_op rfl (op_box (zs := [(.int .i64 (i64 pp)), (.int .i64 (i64 pr)), (.int .i64 (i64 pa)), (b64 pt), (.int .i64 (i64 pi))]) rfl rfl rfl rfl rfl (fun g2 => ?_))
 refine la rfl rfl rfl rfl rfl ?_
 refine la rfl rfl rfl rfl rfl ?_
 refine L_nil ?_
 refine T_seq ?_
 refine Tsr hF rfl ?_
 refine lm rfl rfl rfl rfl rfl ?_
 refine L_op rfl (op_cn (fun w hw => may_f ((q : Nat) : Int) w (hok_nil w) ) (enters_of Try.func33 kr rfl) rfl rfl rfl rfl rfl (fun t3 q4 => ?_))
 refine lo rfl (pr_un rfl rfl rfl) rfl rfl ?_
 refine L_nil ?_
 refine T_cond_no (t := !(mayb ((q : Nat) : Int))) rfl (by rw [hmq]; rfl) ?_
 refine T_skip ?_
 refine Tsr hF rfl ?_
 refine lq rfl (ld_agg (ds := (job.map b8)) 1 rfl agg_all Try.underlying50 rfl (fwz (n := 32) kr sd) rfl rfl) rfl rfl ?_
 refine lq rfl (ld_agg (ds := [(.int .i64 (i64 pp)), (.int .i64 (i64 pr)), (.int .i64 (i64 pa)), (b64 pt), (.int .i64 (i64 pi))]) 0 rfl agg_all Try.underlying59 rfl kr rfl rfl) rfl rfl ?_
 refine L_op rfl (op_cn (fun w hw => buse_f job pp pr pa pt pi w (hok_nil w) (by first | assumption | exact sd)) (enters_of Try.func53 kr rfl) rfl rfl rfl rfl rfl (fun t5 q6 => ?_))
 refine L_op rfl (op_alloc (z := .agg [(b8 (0#8)), (b8 (0#8)), (b8 (0#8)), (b8 (0#8)), (b8 (0#8)), (b8 (0#8)), (b8 (0#8)), (b8 (0#8)), (b8 (0#8)), (b8 (0#8)), (b8 (0#8)), (b8 (0#8)), (b8 (0#8)), (b8 (0#8)), (b8 (0#8)), (b8 (0#8)), (b8 (0#8)), (b8 (0#8)), (b8 (0#8)), (b8 (0#8)), (b8 (0#8)), (b8 (0#8)), (b8 (0#8)), (b8 (0#8)), (b8 (0#8)), (b8 (0#8)), (b8 (0#8)), (b8 (0#8)), (b8 (0#8)), (b8 (0#8)), (b8 (0#8)), (b8 (0#8)), (b8 (0#8)), (b8 (0#8)), (b8 (0#8)), (b8 (0#8)), (b8 (0#8)), (b8 (0#8)), (b8 (0#8)), (b8 (0#8)), (b8 (0#8)), (b8 (0#8)), (b8 (0#8)), (b8 (0#8))].toArray) (zs := [(b8 (0#8)), (b8 (0#8)), (b8 (0#8)), (b8 (0#8)), (b8 (0#8)), (b8 (0#8)), (b8 (0#8)), (b8 (0#8)), (b8 (0#8)), (b8 (0#8)), (b8 (0#8)), (b8 (0#8)), (b8 (0#8)), (b8 (0#8)), (b8 (0#8)), (b8 (0#8)), (b8 (0#8)), (b8 (0#8)), (b8 (0#8)), (b8 (0#8)), (b8 (0#8)), (b8 (0#8)), (b8 (0#8)), (b8 (0#8)), (b8 (0#8)), (b8 (0#8)), (b8 (0#8)), (b8 (0#8)), (b8 (0#8)), (b8 (0#8)), (b8 (0#8)), (b8 (0#8)), (b8 (0#8)), (b8 (0#8)), (b8 (0#8)), (b8 (0#8)), (b8 (0#8)), (b8 (0#8)), (b8 (0#8)), (b8 (0#8)), (b8 (0#8)), (b8 (0#8)), (b8 (0#8)), (b8 (0#8))]) kr rfl rfl rfl rfl (fun g7 => ?_))
 refine L_op rfl (op_sto (n := 44) (vs := (((pkey job pp pr pa) ++ (nonc pt pi)).map b8)) 0 rfl rfl kr (all8_one _) kr sd rfl rfl rfl rfl ?_)
 refine L_nil ?_
 refine T_seq ?_
 refine T_regD [.blk g7 88 (((pkey job pp pr pa) ++ (nonc pt pi)).map b8), .blk g2 59 [(.int .i64 (i64 pp)), (.int .i64 (i64 pr)), (.int .i64 (i64 pa)), (b64 pt), (.int .i64 (i64 pi))], .blk g1 50 (job.map b8), .rd A 1 n c (b.map b8)] 15 15 #[false, false, false, false, false, false, false, false, false, false, false, false, false, false, false] hF kr kr ?_
 refine D_pure (i := 0) [0, 1, 2, 3] rfl kr rfl (pr_fa (m := 0) (m' := 0) (z := 31) (by rfl) Try.underlying88 rfl kr rfl rfl) (.inr rfl) rfl rfl ?_
 refine D_pure (i := 2) [0, 1, 2, 3] rfl kr rfl (pr_fa (m := 0) (m' := 32) (z := 11) (by rfl) Try.underlying88 rfl kr rfl rfl) (.inr rfl) rfl rfl ?_
 refine D_pure (i := 5) [0, 1, 2, 3] rfl kr rfl (pr_move rfl rfl) (.inr rfl) rfl rfl ?_
 refine D_pure (i := 6) [0, 1, 2, 3] rfl kr rfl (pr_mul (nm_i64 (a := q) (b := 32) sd) rfl rfl rfl) (.inr rfl) rfl rfl ?_
 refine T_slot 26 (.int .i64 ((q * 32 : Nat) : Int)) (.int .i64 ((32 * q : Nat) : Int)) rfl (by rw [Nat.mul_comm]) ?_
 refine D_pure (i := 8) [0, 1, 2, 3] rfl kr rfl (pr_move rfl rfl) (.inr rfl) rfl rfl ?_
 refine D_take (i := 1) [0, 1, 2, 3] rfl kr rfl (ld_agg (ds := ((List.take 32 ((pkey job pp pr pa) ++ (nonc pt pi))).map b8)) 0 rfl (by simp [List.map_take, List.map_drop]) Try.underlying50 rfl (fwz (n := 32) kr sd) rfl rfl) rfl rfl rfl ?_
 refine T_slot 21 _ (.agg ((pkey job pp pr pa).map b8).toArray) rfl (by rw [ptake hpk]) ?_
 refine D_take (i := 3) [0, 1, 2, 3] rfl kr rfl (ld_agg (ds := ((List.take 12 (List.drop 32 ((pkey job pp pr pa) ++ (nonc pt pi)))).map b8)) 0 rfl (by simp [List.map_take, List.map_drop]) Try.underlying86 rfl (fwz (n := 12) kr sd) rfl rfl) rfl rfl rfl ?_
 refine T_slot 23 _ (.agg ((nonc pt pi).map b8).toArray) rfl (by rw [pdrop hpk hnn]) ?_
 refine D_take (i := 4) [0, 1, 2, 3] rfl kr rfl (ld_agg (ds := [(.int .i64 (i64 pp)), (.int .i64 (i64 pr)), (.int .i64 (i64 pa)), (b64 pt), (.int .i64 (i64 pi))]) 1 rfl agg_all Try.underlying59 rfl kr rfl rfl) rfl rfl rfl ?_
 refine D_one 7 _ rfl kr rfl (op_cn (fun w hw => kaad_f pp pr pa pt pi (32 * q) w (hok_nil w) sd) (enters_of Try.func55 kr rfl) rfl rfl rfl rfl rfl (fun t8 q9 => ?_))
 obtain ⟨B10, d11⟩ := t8
 refine T_as 0 _ (.old B10 1 48 d11 ((paad pp pr pa pt pi q).map b8)) rfl (by rw [paad_def]) ?_
 refine D_on [1, 2, 3, 4] rfl ?_
 refine D_one 9 _ rfl kr rfl (op_cn (fun w hw => open_bad_f (pkey job pp pr pa) (nonc pt pi) (paad pp pr pa pt pi q) b B10 48 d11 A n c w (hok_cons ((src_old 0 rfl) w hw) (hok_cons ((src_rd 4 rfl) w hw) (hok_nil w))) (by first | assumption | exact sd) (by first | assumption | exact sd) (by first | assumption | exact sd) (by first | assumption | exact sd) sd sd sd hg) (enters_of Try.func56 kr rfl) rfl rfl rfl rfl rfl (fun t12 q13 => ?_))
 refine D_on [1, 2, 3, 4] rfl ?_
 refine D_pure (i := 10) [1, 2, 3, 4] rfl kr rfl (pr_move rfl rfl) (.inr rfl) rfl rfl ?_
 refine D_pure (i := 11) [1, 2, 3, 4] rfl kr rfl (pr_ext (vs := [(.slice none 0 0), (.int .i64 ((6 : Nat) : Int))]) rfl rfl rfl) (.inr rfl) rfl rfl ?_
 refine D_pure (i := 12) [1, 2, 3, 4] rfl kr rfl (pr_ext (vs := [(.slice none 0 0), (.int .i64 ((6 : Nat) : Int))]) rfl rfl rfl) (.inr rfl) rfl rfl ?_
 refine D_pure (i := 13) [1, 2, 3, 4] rfl kr rfl (pr_assign rfl rfl) (.inr rfl) rfl rfl ?_
 refine D_pure (i := 14) [1, 2, 3, 4] rfl kr rfl (pr_assign rfl rfl) (.inr rfl) rfl rfl ?_
 refine D_done kr ?_
 refine T_seq ?_
 refine Tsr hF rfl ?_
 refine lm rfl rfl rfl rfl rfl ?_
 refine lo rfl (pr_cmp (bo := .neq) (nc_ne (a := 6) (b := 0)) rfl rfl rfl rfl) rfl rfl ?_
 refine L_nil ?_
 refine T_cond_t rfl ?_
 refine Tsr hF rfl ?_
 refine lm rfl rfl rfl rfl rfl ?_
 refine la rfl rfl rfl rfl rfl ?_
 refine la rfl rfl rfl rfl rfl ?_
 refine L_nil ?_
 refine T_ret ?_
 exact T_fin () (by first | trivial | omega | (simp; done)) (res2 rfl rfl rfl) [] ⟨by decide, rfl⟩ rfl
set_option maxRecDepth 100000 in
set_option maxHeartbeats 4000000 in
theorem bopen_short_f (job : List (BitVec 8)) (pp : BitVec 64) (pr : BitVec 64) (pa : BitVec 64) (pt : BitVec 64) (pi : BitVec 64) (b : List (BitVec 8)) (A : Option Addr) (n : Nat) (c : Nat) (q : Nat) (w : World) (hO : HOK [.rd A 1 n c (b.map b8)] w) (hj : job.length = 32) (hb : b.length = n) (hq1 : 1 ≤ q) (hq8 : q ≤ 8) (h4 : n < 16) : Calls Try.prog 32 [(.agg (job.map b8).toArray), (.agg [(.int .i64 (i64 pp)), (.int .i64 (i64 pr)), (.int .i64 (i64 pa)), (b64 pt), (.int .i64 (i64 pi))].toArray), (.int .i64 ((q : Nat) : Int)), (.slice A n c)].toArray w (Ret (T := Unit) [] w (fun _ => True) (fun _ => (.tuple [(.slice none 0 0), (.int .i64 ((3 : Nat) : Int))].toArray)) (fun _ => [])) := by
 have hpk := pkey_len job pp pr pa
 have hnn := nonc_len pt pi
 have huu : ((pkey job pp pr pa) ++ (nonc pt pi)).length = 44 := by rw [List.length_append, hpk, hnn]
 have haa := paad_len pp pr pa pt pi q
 have hmq := mayb_q hq1 hq8
 have hF : Wid Fence.wide := wid_wide
 refine enter (c := _) Try.func32 rfl [] _ [.rd A 1 n c (b.map b8)] (by rw [Try.ntmps32]; rfl) (own_rds hO rfl) ?_
 rw [Try.ntmps32]
 refine T_re [(0, (.agg (job.map b8).toArray)), (1, (.agg [(.int .i64 (i64 pp)), (.int .i64 (i64 pr)), (.int .i64 (i64 pa)), (b64 pt), (.int .i64 (i64 pi))].toArray)), (2, (.int .i64 ((q : Nat) : Int))), (3, (.slice A n c))] (sc rfl (sc rfl (sc rfl (sc rfl sn)))) ?_
 refine T_he [0] [.rd A 1 n c (b.map b8)] ⟨by decide, rfl⟩ ?_
 refine Tsr hF rfl ?_
 refine L_op rfl (op_box (zs := (job.map b8)) rfl rfl rfl rfl rfl (fun g1 => ?_))
 refine L_op rfl (op_box (zs := [(.int .i64 (i64 pp)), (.int .i64 (i64 pr)), (.int .i64 (i64 pa)), (b64 pt), (.int .i64 (i64 pi))]) rfl rfl rfl rfl rfl (fun g2 => ?_))
 refine la rfl rfl rfl rfl rfl ?_
 refine la rfl rfl rfl rfl rfl ?_
 refine L_nil ?_
 refine T_seq ?_
 refine Tsr hF rfl ?_
 refine lm rfl rfl rfl rfl rfl ?_
 refine L_op rfl (op_cn (fun w hw => may_f ((q : Nat) : Int) w (hok_nil w) ) (enters_of Try.func33 kr rfl) rfl rfl rfl rfl rfl (fun t3 q4 => ?_))
 refine lo rfl (pr_un rfl rfl rfl) rfl rfl ?_
 refine L_nil ?_
 refine T_cond_no (t := !(mayb ((q : Nat) : Int))) rfl (by rw [hmq]; rfl) ?_
 refine T_skip ?_
 refine Tsr hF rfl ?_
 refine lq rfl (ld_agg (ds := (job.map b8)) 1 rfl agg_all Try.underlying50 rfl (fwz (n := 32) kr sd) rfl rfl) rfl rfl ?_
 refine lq rfl (ld_agg (ds := [(.int .i64 (i64 pp)), (.int .i64 (i64 pr)), (.int .i64 (i64 pa)), (b64 pt), (.int .i64 (i64 pi))]) 0 rfl agg_all Try.underlying59 rfl kr rfl rfl) rfl rfl ?_
 refine L_op rfl (op_cn (fun w hw => buse_f job pp pr pa pt pi w (hok_nil w) (by first | assumption | exact sd)) (enters_of Try.func53 kr rfl) rfl rfl rfl rfl rfl (fun t5 q6 => ?_))
 refine L_op rfl (op_alloc (z := .agg [(b8 (0#8)), (b8 (0#8)), (b8 (0#8)), (b8 (0#8)), (b8 (0#8)), (b8 (0#8)), (b8 (0#8)), (b8 (0#8)), (b8 (0#8)), (b8 (0#8)), (b8 (0#8)), (b8 (0#8)), (b8 (0#8)), (b8 (0#8)), (b8 (0#8)), (b8 (0#8)), (b8 (0#8)), (b8 (0#8)), (b8 (0#8)), (b8 (0#8)), (b8 (0#8)), (b8 (0#8)), (b8 (0#8)), (b8 (0#8)), (b8 (0#8)), (b8 (0#8)), (b8 (0#8)), (b8 (0#8)), (b8 (0#8)), (b8 (0#8)), (b8 (0#8)), (b8 (0#8)), (b8 (0#8)), (b8 (0#8)), (b8 (0#8)), (b8 (0#8)), (b8 (0#8)), (b8 (0#8)), (b8 (0#8)), (b8 (0#8)), (b8 (0#8)), (b8 (0#8)), (b8 (0#8)), (b8 (0#8))].toArray) (zs := [(b8 (0#8)), (b8 (0#8)), (b8 (0#8)), (b8 (0#8)), (b8 (0#8)), (b8 (0#8)), (b8 (0#8)), (b8 (0#8)), (b8 (0#8)), (b8 (0#8)), (b8 (0#8)), (b8 (0#8)), (b8 (0#8)), (b8 (0#8)), (b8 (0#8)), (b8 (0#8)), (b8 (0#8)), (b8 (0#8)), (b8 (0#8)), (b8 (0#8)), (b8 (0#8)), (b8 (0#8)), (b8 (0#8)), (b8 (0#8)), (b8 (0#8)), (b8 (0#8)), (b8 (0#8)), (b8 (0#8)), (b8 (0#8)), (b8 (0#8)), (b8 (0#8)), (b8 (0#8)), (b8 (0#8)), (b8 (0#8)), (b8 (0#8)), (b8 (0#8)), (b8 (0#8)), (b8 (0#8)), (b8 (0#8)), (b8 (0#8)), (b8 (0#8)), (b8 (0#8)), (b8 (0#8)), (b8 (0#8))]) kr rfl rfl rfl rfl (fun g7 => ?_))
 refine L_op rfl (op_sto (n := 44) (vs := (((pkey job pp pr pa) ++ (nonc pt pi)).map b8)) 0 rfl rfl kr (all8_one _) kr sd rfl rfl rfl rfl ?_)
 refine L_nil ?_
 refine T_seq ?_
 refine T_regD [.blk g7 88 (((pkey job pp pr pa) ++ (nonc pt pi)).map b8), .blk g2 59 [(.int .i64 (i64 pp)), (.int .i64 (i64 pr)), (.int .i64 (i64 pa)), (b64 pt), (.int .i64 (i64 pi))], .blk g1 50 (job.map b8), .rd A 1 n c (b.map b8)] 15 15 #[false, false, false, false, false, false, false, false, false, false, false, false, false, false, false] hF kr kr ?_
 refine D_pure (i := 0) [0, 1, 2, 3] rfl kr rfl (pr_fa (m := 0) (m' := 0) (z := 31) (by rfl) Try.underlying88 rfl kr rfl rfl) (.inr rfl) rfl rfl ?_
 refine D_pure (i := 2) [0, 1, 2, 3] rfl kr rfl (pr_fa (m := 0) (m' := 32) (z := 11) (by rfl) Try.underlying88 rfl kr rfl rfl) (.inr rfl) rfl rfl ?_
 refine D_pure (i := 5) [0, 1, 2, 3] rfl kr rfl (pr_move rfl rfl) (.inr rfl) rfl rfl ?_
 refine D_pure (i := 6) [0, 1, 2, 3] rfl kr rfl (pr_mul (nm_i64 (a := q) (b := 32) sd) rfl rfl rfl) (.inr rfl) rfl rfl ?_
 refine T_slot 26 (.int .i64 ((q * 32 : Nat) : Int)) (.int .i64 ((32 * q : Nat) : Int)) rfl (by rw [Nat.mul_comm]) ?_
 refine D_pure (i := 8) [0, 1, 2, 3] rfl kr rfl (pr_move rfl rfl) (.inr rfl) rfl rfl ?_
 refine D_take (i := 1) [0, 1, 2, 3] rfl kr rfl (ld_agg (ds := ((List.take 32 ((pkey job pp pr pa) ++ (nonc pt pi))).map b8)) 0 rfl (by simp [List.map_take, List.map_drop]) Try.underlying50 rfl (fwz (n := 32) kr sd) rfl rfl) rfl rfl rfl ?_
 refine T_slot 21 _ (.agg ((pkey job pp pr pa).map b8).toArray) rfl (by rw [ptake hpk]) ?_
 refine D_take (i := 3) [0, 1, 2, 3] rfl kr rfl (ld_agg (ds := ((List.take 12 (List.drop 32 ((pkey job pp pr pa) ++ (nonc pt pi)))).map b8)) 0 rfl (by simp [List.map_take, List.map_drop]) Try.underlying86 rfl (fwz (n := 12) kr sd) rfl rfl) rfl rfl rfl ?_
 refine T_slot 23 _ (.agg ((nonc pt pi).map b8).toArray) rfl (by rw [pdrop hpk hnn]) ?_
 refine D_take (i := 4) [0, 1, 2, 3] rfl kr rfl (ld_agg (ds := [(.int .i64 (i64 pp)), (.int .i64 (i64 pr)), (.int .i64 (i64 pa)), (b64 pt), (.int .i64 (i64 pi))]) 1 rfl agg_all Try.underlying59 rfl kr rfl rfl) rfl rfl rfl ?_
 refine D_one 7 _ rfl kr rfl (op_cn (fun w hw => kaad_f pp pr pa pt pi (32 * q) w (hok_nil w) sd) (enters_of Try.func55 kr rfl) rfl rfl rfl rfl rfl (fun t8 q9 => ?_))
 obtain ⟨B10, d11⟩ := t8
 refine T_as 0 _ (.old B10 1 48 d11 ((paad pp pr pa pt pi q).map b8)) rfl (by rw [paad_def]) ?_
 refine D_on [1, 2, 3, 4] rfl ?_
 refine D_one 9 _ rfl kr rfl (op_cn (fun w hw => open_short_f (pkey job pp pr pa) (nonc pt pi) (paad pp pr pa pt pi q) b B10 48 d11 A n c w (hok_cons ((src_old 0 rfl) w hw) (hok_cons ((src_rd 4 rfl) w hw) (hok_nil w))) (by first | assumption | exact sd) (by first | assumption | exact sd) (by first | assumption | exact sd) (by first | assumption | exact sd) sd sd) (enters_of Try.func56 kr rfl) rfl rfl rfl rfl rfl (fun t12 q13 => ?_))
 refine D_on [1, 2, 3, 4] rfl ?_
 refine D_pure (i := 10) [1, 2, 3, 4] rfl kr rfl (pr_move rfl rfl) (.inr rfl) rfl rfl ?_
 refine D_pure (i := 11) [1, 2, 3, 4] rfl kr rfl (pr_ext (vs := [(.slice none 0 0), (.int .i64 ((3 : Nat) : Int))]) rfl rfl rfl) (.inr rfl) rfl rfl ?_
 refine D_pure (i := 12) [1, 2, 3, 4] rfl kr rfl (pr_ext (vs := [(.slice none 0 0), (.int .i64 ((3 : Nat) : Int))]) rfl rfl rfl) (.inr rfl) rfl rfl ?_
 refine D_pure (i := 13) [1, 2, 3, 4] rfl kr rfl (pr_assign rfl rfl) (.inr rfl) rfl rfl ?_
 refine D_pure (i := 14) [1, 2, 3, 4] rfl kr rfl (pr_assign rfl rfl) (.inr rfl) rfl rfl ?_
 refine D_done kr ?_
 refine T_seq ?_
 refine Tsr hF rfl ?_
 refine lm rfl rfl rfl rfl rfl ?_
 refine lo rfl (pr_cmp (bo := .neq) (nc_ne (a := 3) (b := 0)) rfl rfl rfl rfl) rfl rfl ?_
 refine L_nil ?_
 refine T_cond_t rfl ?_
 refine Tsr hF rfl ?_
 refine lm rfl rfl rfl rfl rfl ?_
 refine la rfl rfl rfl rfl rfl ?_
 refine la rfl rfl rfl rfl rfl ?_
 refine L_nil ?_
 refine T_ret ?_
 exact T_fin () (by first | trivial | omega | (simp; done)) (res2 rfl rfl rfl) [] ⟨by decide, rfl⟩ rfl
set_option maxHeartbeats 4000000 in
theorem bopen_arg_f (job : List (BitVec 8)) (pp : BitVec 64) (pr : BitVec 64) (pa : BitVec 64) (pt : BitVec 64) (pi : BitVec 64) (z : Int) (b : List (BitVec 8)) (A : Option Addr) (n : Nat) (c : Nat) (w : World) (hO : HOK [.rd A 1 n c (b.map b8)] w) (hj : job.length = 32) (hz : z < 1 ∨ 8 < z) : Calls Try.prog 32 [(.agg (job.map b8).toArray), (.agg [(.int .i64 (i64 pp)), (.int .i64 (i64 pr)), (.int .i64 (i64 pa)), (b64 pt), (.int .i64 (i64 pi))].toArray), (.int .i64 z), (.slice A n c)].toArray w (Ret (T := Unit) [] w (fun _ => True) (fun _ => (.tuple [(.slice none 0 0), (.int .i64 ((1 : Nat) : Int))].toArray)) (fun _ => [])) := by
 have hF : Wid Fence.wide := wid_wide
 refine enter (c := _) Try.func32 rfl [] _ [.rd A 1 n c (b.map b8)] (by rw [Try.ntmps32]; rfl) (own_rds hO rfl) ?_
 rw [Try.ntmps32]
 refine T_re [(0, (.agg (job.map b8).toArray)), (1, (.agg [(.int .i64 (i64 pp)), (.int .i64 (i64 pr)), (.int .i64 (i64 pa)), (b64 pt), (.int .i64 (i64 pi))].toArray)), (2, (.int .i64 z)), (3, (.slice A n c))] (sc rfl (sc rfl (sc rfl (sc rfl sn)))) ?_
 refine T_he [0] [.rd A 1 n c (b.map b8)] ⟨by decide, rfl⟩ ?_
 refine Tsr hF rfl ?_
 refine L_op rfl (op_box (zs := (job.map b8)) rfl rfl rfl rfl rfl (fun g1 => ?_))
 refine L_op rfl (op_box (zs := [(.int .i64 (i64 pp)), (.int .i64 (i64 pr)), (.int .i64 (i64 pa)), (b64 pt), (.int .i64 (i64 pi))]) rfl rfl rfl rfl rfl (fun g2 => ?_))
 refine la rfl rfl rfl rfl rfl ?_
 refine la rfl rfl rfl rfl rfl ?_
 refine L_nil ?_
 refine T_seq ?_
 refine Tsr hF rfl ?_
 refine lm rfl rfl rfl rfl rfl ?_
 refine L_op rfl (op_cn (fun w hw => may_f z w (hok_nil w) ) (enters_of Try.func33 kr rfl) rfl rfl rfl rfl rfl (fun t3 q4 => ?_))
 refine lo rfl (pr_un rfl rfl rfl) rfl rfl ?_
 refine L_nil ?_
 refine T_cond_yes (t := !(mayb z)) rfl (by rw [mayb_n hz]; rfl) ?_
 refine Tsr hF rfl ?_
 refine la rfl rfl rfl rfl rfl ?_
 refine la rfl rfl rfl rfl rfl ?_
 refine L_nil ?_
 refine T_ret ?_
 exact T_fin () (by first | trivial | omega | (simp; done)) (res2 rfl rfl rfl) [] ⟨by decide, rfl⟩ rfl
end Go.Proofs.Ytlplpmkdebemnaa
namespace Go.Proofs.Ytlplpmkdebemnaa
set_option linter.unusedVariables false
set_option linter.unusedSimpArgs false
set_option linter.unnecessarySimpa false
set_option maxRecDepth 100000
open Go.RowKit Bv Fw

theorem ownr_step (xs : List Rc) (f : Rc) (n k : Nat) (hx : xs.length = n) (hk : k < 3) : (xs ++ (List.replicate k f ++ List.replicate (3 - k) rc0)).set (n + k) f = xs ++ (List.replicate (k + 1) f ++ List.replicate (3 - (k + 1)) rc0) := by
  subst hx
  rcases (by omega : k = 0 ∨ k = 1 ∨ k = 2) with rfl | rfl | rfl <;> simp [List.set_append_right, List.replicate]
theorem ownr_at (xs : List Rc) (f : Rc) (n k : Nat) (hx : xs.length = n) (hk : k < 3) : rat (List.take (n + 3) (xs ++ [f, f, f])) (n + k) = f := by
  subst hx
  unfold rat
  rcases (by omega : k = 0 ∨ k = 1 ∨ k = 2) with rfl | rfl | rfl <;> simp [List.getD_eq_getElem?_getD, List.getElem?_take, List.getElem?_append_right]

set_option maxHeartbeats 4000000 in
theorem rplain1_f (d : Bool) (vk : BitVec 64) (vv : BitVec 64) (vs : BitVec 64) (w : World) (hO : HOK [] w)  : Calls Try.prog 48 [(.agg [(.bool d), (.int .i64 (i64 vk)), (.int .i64 (i64 vv)), (.int .i64 (i64 vs))].toArray), (.agg [(.bool d), (.int .i64 (i64 vk)), (.int .i64 (i64 vv)), (.int .i64 (i64 vs))].toArray)].toArray w (Ret (T := Unit) [] w (fun _ => True) (fun _ => (.bool true)) (fun _ => [])) := by
 have hF : Wid Fence.wide := wid_wide
 refine enter (c := _) Try.func48 rfl [] _ [] (by rw [Try.ntmps48]; rfl) (own_rds hO rfl) ?_
 rw [Try.ntmps48]
 refine T_re [(0, (.agg [(.bool d), (.int .i64 (i64 vk)), (.int .i64 (i64 vv)), (.int .i64 (i64 vs))].toArray)), (1, (.agg [(.bool d), (.int .i64 (i64 vk)), (.int .i64 (i64 vv)), (.int .i64 (i64 vs))].toArray))] (sc rfl (sc rfl sn)) ?_
 refine T_he [] [] ⟨by decide, rfl⟩ ?_
 refine Tsr hF rfl ?_
 refine L_op rfl (op_box (zs := [(.bool d), (.int .i64 (i64 vk)), (.int .i64 (i64 vv)), (.int .i64 (i64 vs))]) rfl rfl rfl rfl rfl (fun g1 => ?_))
 refine L_op rfl (op_box (zs := [(.bool d), (.int .i64 (i64 vk)), (.int .i64 (i64 vv)), (.int .i64 (i64 vs))]) rfl rfl rfl rfl rfl (fun g2 => ?_))
 refine la rfl rfl rfl rfl rfl ?_
 refine L_nil ?_
 refine Tsr hF rfl ?_
 refine lq rfl (ld_agg (ds := [(.bool d), (.int .i64 (i64 vk)), (.int .i64 (i64 vv)), (.int .i64 (i64 vs))]) 1 rfl agg_all Try.underlying43 rfl kr rfl rfl) rfl rfl ?_
 refine lq rfl (ld_agg (ds := [(.bool d), (.int .i64 (i64 vk)), (.int .i64 (i64 vv)), (.int .i64 (i64 vs))]) 0 rfl agg_all Try.underlying43 rfl kr rfl rfl) rfl rfl ?_
 refine lo rfl (pr_eqs (bo := .eql) (c := true) (r := true) (fun _ _ => eqs Try.underlying43 kr (eqt rfl (part1 Try.underlying4 rfl rfl) (part1 Try.underlying4 rfl rfl) (eqv_sb Try.underlying4) (eqt rfl (part1 Try.underlying2 rfl rfl) (part1 Try.underlying2 rfl rfl) (eqv_si Try.underlying2) (eqt rfl (part1 Try.underlying2 rfl rfl) (part1 Try.underlying2 rfl rfl) (eqv_si Try.underlying2) (eqt rfl (part1 Try.underlying2 rfl rfl) (part1 Try.underlying2 rfl rfl) (eqv_si Try.underlying2) eqf_nil))))) kr rfl rfl rfl rfl rfl) rfl rfl ?_
 refine la rfl rfl rfl rfl rfl ?_
 refine L_nil ?_
 refine T_ret ?_
 exact T_fin () (by first | trivial | omega | (simp; done)) (res1 rfl rfl) [] ⟨by decide, rfl⟩ rfl
set_option maxHeartbeats 4000000 in
theorem rsame_f (xs : List Rc) (A : Option Addr) (n : Nat) (c : Nat) (B : Option Addr) (e : Nat) (w : World) (hO : HOK [.rd A 4 n c (rcs xs), .rd B 4 n e (rcs xs)] w) (hx : xs.length = n) (hn : n ≤ 1000000) : Calls Try.prog 47 [(.slice A n c), (.slice B n e), (.func (.func 48) #[] [].toArray)].toArray w (Ret (T := Unit) [] w (fun _ => True) (fun _ => (.bool true)) (fun _ => [])) := by
 have hF : Wid Fence.wide := wid_wide
 refine enter (c := _) Try.func47 rfl [] _ [.rd A 4 n c (rcs xs), .rd B 4 n e (rcs xs)] (by rw [Try.ntmps47]; rfl) (own_rds hO rfl) ?_
 rw [Try.ntmps47]
 refine T_re [(0, (.slice A n c)), (1, (.slice B n e)), (2, (.func (.func 48) #[] [].toArray))] (sc rfl (sc rfl (sc rfl sn))) ?_
 refine T_he [0, 1] [.rd A 4 n c (rcs xs), .rd B 4 n e (rcs xs)] ⟨by decide, rfl⟩ ?_
 refine Tsr hF rfl ?_
 refine la rfl rfl rfl rfl rfl ?_
 refine L_nil ?_
 refine T_seq ?_
 refine Tsr hF rfl ?_
 refine lm rfl rfl rfl rfl rfl ?_
 refine lo rfl (pr_len_sl Try.underlying27 rfl rfl) rfl rfl ?_
 refine lm rfl rfl rfl rfl rfl ?_
 refine lo rfl (pr_len_sl Try.underlying27 rfl rfl) rfl rfl ?_
 refine lo rfl (pr_cmp (bo := .neq) (nc_ne (a := n) (b := n)) rfl rfl rfl rfl) rfl rfl ?_
 refine L_nil ?_
 refine T_cond_no (t := (n != n)) rfl (by simp) ?_
 refine T_skip ?_
 refine T_seq ?_
 refine Tsr hF rfl ?_
 refine la rfl rfl rfl rfl rfl ?_
 refine L_nil ?_
 refine T_block ?_
 refine T_loop (T := Nat) (fun k => k ≤ n) (fun k => [(0, (.slice A n c)), (1, (.slice B n e)), (2, (.func (.func 48) #[] [].toArray)), (7, (.int .i64 ((k : Nat) : Int)))]) (fun k => [.rd A 4 n c (rcs xs), .rd B 4 n e (rcs xs)]) (fun k => n - k) 0 (by first | trivial | ((try dsimp only); first | omega | (refine ⟨?_, ?_⟩ <;> omega) | (refine ⟨?_, ?_, ?_⟩ <;> omega) | (simp; done) | (simp; omega))) (sc rfl (sc rfl (sc rfl (sc rfl sn)))) [0, 1] ⟨by decide, rfl⟩ ?_
 rintro k hp
 have hp : k ≤ n := hp
 refine T_re [(0, (.slice A n c)), (1, (.slice B n e)), (2, (.func (.func 48) #[] [].toArray)), (7, (.int .i64 ((k : Nat) : Int)))] (sc rfl (sc rfl (sc rfl (sc rfl sn)))) ?_
 refine T_he [0, 1] [.rd A 4 n c (rcs xs), .rd B 4 n e (rcs xs)] ⟨by decide, rfl⟩ ?_
 refine T_seq ?_
 refine Tsr hF rfl ?_
 refine lm rfl rfl rfl rfl rfl ?_
 refine lm rfl rfl rfl rfl rfl ?_
 refine lo rfl (pr_len_sl Try.underlying27 rfl rfl) rfl rfl ?_
 refine lo rfl (pr_cmp (bo := .lss) (nc_lt (a := k) (b := n)) rfl rfl rfl rfl) rfl rfl ?_
 refine L_nil ?_
 refine T_cond (decide (k < n)) rfl (fun hc_1 => ?_) (fun hc_1 => ?_)
 ·
  have hc_1 := of_decide_eq_true hc_1
  refine T_skip ?_
  refine T_seq ?_
  refine T_block ?_
  refine T_seq ?_
  refine T_regD [.rd A 4 n c (rcs xs), .rd B 4 n e (rcs xs)] 11 11 #[false, false, false, false, false, false, false, false, false, false, false] hF kr kr ?_
  refine D_pure (i := 0) [0, 1] rfl kr rfl (pr_move rfl rfl) (.inr rfl) rfl rfl ?_
  refine D_pure (i := 1) [0, 1] rfl kr rfl (pr_move rfl rfl) (.inr rfl) rfl rfl ?_
  refine D_pure (i := 2) [0, 1] rfl kr rfl (pr_move rfl rfl) (.inr rfl) rfl rfl ?_
  refine D_pure (i := 3) [0, 1] rfl kr rfl (pr_ixs (j := k) (src_none (src_rd 0 rfl)) sd Try.underlying27 (z := 4) kr rfl rfl rfl) (.inr rfl) rfl rfl ?_
  refine D_pure (i := 5) [0, 1] rfl kr rfl (pr_move rfl rfl) (.inr rfl) rfl rfl ?_
  refine D_pure (i := 6) [0, 1] rfl kr rfl (pr_move rfl rfl) (.inr rfl) rfl rfl ?_
  refine D_pure (i := 7) [0, 1] rfl kr rfl (pr_ixs (j := k) (src_none (src_rd 1 rfl)) sd Try.underlying27 (z := 4) kr rfl rfl rfl) (.inr rfl) rfl rfl ?_
  refine D_take (i := 4) [0, 1] rfl kr rfl (ld_rc (j := k) (src_rd 0 rfl) sd Try.underlying43 rfl kr rfl rfl) rfl rfl rfl ?_
  refine D_take (i := 8) [0, 1] rfl kr rfl (ld_rc (j := k) (src_rd 1 rfl) sd Try.underlying43 rfl kr rfl rfl) rfl rfl rfl ?_
  refine D_one 9 _ rfl kr rfl (op_cn (fun w hw => rplain1_f ((rat xs k).d) ((rat xs k).k) ((rat xs k).v) ((rat xs k).s) w (hok_nil w) ) (enters_of Try.func48 kr rfl) rfl rfl rfl rfl rfl (fun t2 q3 => ?_))
  refine D_on [0, 1] rfl ?_
  refine D_pure (i := 10) [0, 1] rfl kr rfl (pr_un (v := .bool false) rfl rfl rfl) (.inr rfl) rfl rfl ?_
  refine D_done kr ?_
  refine T_cond_f rfl ?_
  refine T_skip ?_
  refine T_reg hF rfl ?_
  refine lm rfl rfl rfl rfl rfl ?_
  refine lo rfl (pr_add (na_i64 (a := k) (b := 1) sd) rfl rfl rfl) rfl rfl ?_
  refine la rfl rfl rfl rfl rfl ?_
  refine L_nil ?_
  exact T_again (k + 1) (by first | trivial | ((try dsimp only); first | omega | (refine ⟨?_, ?_⟩ <;> omega) | (refine ⟨?_, ?_, ?_⟩ <;> omega) | (simp; done) | (simp; omega))) (by first | trivial | ((try dsimp only); first | omega | (refine ⟨?_, ?_⟩ <;> omega) | (refine ⟨?_, ?_, ?_⟩ <;> omega) | (simp; done) | (simp; omega))) (sc rfl (sc rfl (sc rfl (sc rfl sn)))) [0, 1] ⟨by decide, rfl⟩
 ·
  have hc_1 := of_decide_eq_false hc_1
  refine T_exit rfl ?_
  refine Tsr hF rfl ?_
  refine la rfl rfl rfl rfl rfl ?_
  refine L_nil ?_
  refine T_ret ?_
  exact T_fin () (by first | trivial | omega | (simp; done)) (res1 rfl rfl) [] ⟨by decide, rfl⟩ rfl
set_option maxHeartbeats 4000000 in
theorem rplain_f (xs : List Rc) (A : Option Addr) (n : Nat) (c : Nat) (B : Option Addr) (e : Nat) (w : World) (hO : HOK [.rd A 4 n c (rcs xs), .rd B 4 n e (rcs xs)] w) (hx : xs.length = n) (hn : n ≤ 1000000) : Calls Try.prog 23 [(.slice A n c), (.slice B n e)].toArray w (Ret (T := Unit) [] w (fun _ => True) (fun _ => (.bool true)) (fun _ => [])) := by
 have hF : Wid Fence.wide := wid_wide
 refine enter (c := _) Try.func23 rfl [] _ [.rd A 4 n c (rcs xs), .rd B 4 n e (rcs xs)] (by rw [Try.ntmps23]; rfl) (own_rds hO rfl) ?_
 rw [Try.ntmps23]
 refine T_re [(0, (.slice A n c)), (1, (.slice B n e))] (sc rfl (sc rfl sn)) ?_
 refine T_he [0, 1] [.rd A 4 n c (rcs xs), .rd B 4 n e (rcs xs)] ⟨by decide, rfl⟩ ?_
 refine Tsr hF rfl ?_
 refine la rfl rfl rfl rfl rfl ?_
 refine L_nil ?_
 refine Tsr hF rfl ?_
 refine lm rfl rfl rfl rfl rfl ?_
 refine lm rfl rfl rfl rfl rfl ?_
 refine L_op rfl (op_cn (fun w hw => rsame_f xs A n c B e w (hok_cons ((src_rd 0 rfl) w hw) (hok_cons ((src_rd 1 rfl) w hw) (hok_nil w))) sd sd) (enters_of Try.func47 kr rfl) rfl rfl rfl rfl rfl (fun t1 q2 => ?_))
 refine la rfl rfl rfl rfl rfl ?_
 refine L_nil ?_
 refine T_ret ?_
 exact T_fin () (by first | trivial | omega | (simp; done)) (res1 rfl rfl) [] ⟨by decide, rfl⟩ rfl
set_option maxHeartbeats 4000000 in
theorem rown_f (xs : List Rc) (A : Option Addr) (n : Nat) (c : Nat) (d : Bool) (vk : BitVec 64) (vv : BitVec 64) (vs : BitVec 64) (w : World) (hO : HOK [.rd A 4 n c (rcs xs)] w) (hx : xs.length = n) (hn : n ≤ 1000000) : Calls Try.prog 19 [(.slice A n c), (.agg [(.bool d), (.int .i64 (i64 vk)), (.int .i64 (i64 vv)), (.int .i64 (i64 vs))].toArray)].toArray w (Ret (T := Option Addr × Nat) [] w (fun ⟨B, e⟩ => n + 3 ≤ e) (fun ⟨B, e⟩ => (.slice B n e)) (fun ⟨B, e⟩ => [.old B 4 (n + 3) e (rcs (xs ++ [(Rc.mk d vk vv vs), (Rc.mk d vk vv vs), (Rc.mk d vk vv vs)])), .old B 4 n e (rcs xs)])) := by
 have hr3 : (rcs (xs ++ [(Rc.mk d vk vv vs), (Rc.mk d vk vv vs), (Rc.mk d vk vv vs)])).length = (n + 3) * 4 := by rw [rcs_len]; simp; omega
 have hF : Wid Fence.wide := wid_wide
 refine enter (c := _) Try.func19 rfl [] _ [.rd A 4 n c (rcs xs)] (by rw [Try.ntmps19]; rfl) (own_rds hO rfl) ?_
 rw [Try.ntmps19]
 refine T_re [(0, (.slice A n c)), (1, (.agg [(.bool d), (.int .i64 (i64 vk)), (.int .i64 (i64 vv)), (.int .i64 (i64 vs))].toArray))] (sc rfl (sc rfl sn)) ?_
 refine T_he [0] [.rd A 4 n c (rcs xs)] ⟨by decide, rfl⟩ ?_
 refine Tsr hF rfl ?_
 refine L_op rfl (op_box (zs := [(.bool d), (.int .i64 (i64 vk)), (.int .i64 (i64 vv)), (.int .i64 (i64 vs))]) rfl rfl rfl rfl rfl (fun g1 => ?_))
 refine la rfl rfl rfl rfl rfl ?_
 refine L_nil ?_
 refine Tsr hF rfl ?_
 refine lm rfl rfl rfl rfl rfl ?_
 refine lo rfl (pr_len_sl Try.underlying27 rfl rfl) rfl rfl ?_
 refine lo rfl (pr_add (na_i64 (a := n) (b := 3) sd) rfl rfl rfl) rfl rfl ?_
 refine L_op rfl (op_makeR (n := 0) (c := n + 3) Try.underlying27 (bytes := 32) kr sd sd sd rfl rfl rfl rfl rfl (fun g2 => ?_))
 refine la rfl rfl rfl rfl rfl ?_
 refine L_nil ?_
 refine Tsr hF rfl ?_
 refine lm rfl rfl rfl rfl rfl ?_
 refine lm rfl rfl rfl rfl rfl ?_
 refine L_op rfl (op_app_roomR (zs := (xs ++ (List.replicate 0 (Rc.mk d vk vv vs) ++ List.replicate (3 - 0) rc0))) 0 rfl Try.underlying27 kr (src_rd 2 rfl) sd (by simp) (by simp) rfl rfl rfl rfl rfl ?_)
 refine la rfl rfl rfl rfl rfl ?_
 refine L_nil ?_
 refine Tsr hF rfl ?_
 refine lm rfl rfl rfl rfl rfl ?_
 refine lm rfl rfl rfl rfl rfl ?_
 refine lo rfl (pr_len_sl Try.underlying27 rfl rfl) rfl rfl ?_
 refine lo rfl (pr_add (na_i64 (a := n) (b := 3) sd) rfl rfl rfl) rfl rfl ?_
 refine lo rfl (pr_slup (u := n + 3) sd Try.underlying27 (z := 4) kr rfl rfl rfl) rfl rfl ?_
 refine la rfl rfl rfl rfl rfl ?_
 refine L_nil ?_
 refine T_seq ?_
 refine Tsr hF rfl ?_
 refine lm rfl rfl rfl rfl rfl ?_
 refine lo rfl (pr_len_sl Try.underlying27 rfl rfl) rfl rfl ?_
 refine la rfl rfl rfl rfl rfl ?_
 refine L_nil ?_
 refine T_block ?_
 refine T_slot 7 (.int .i64 ((n : Nat) : Int)) (.int .i64 ((n + 0 : Nat) : Int)) rfl (by congr 1) ?_
 refine T_loop (T := Nat) (fun k => k ≤ 3) (fun k => [(3, (.pointer (some ⟨g1, 0, none⟩))), (5, (.slice (some ⟨g2, 0, none⟩) (0 + n) (n + 3))), (6, (.slice (some ⟨g2, 0, none⟩) (n + 3) (n + 3))), (7, (.int .i64 ((n + k : Nat) : Int)))]) (fun k => [.blk g2 43 (rcs (xs ++ (List.replicate k (Rc.mk d vk vv vs) ++ List.replicate (3 - k) rc0))), .blk g1 43 [(.bool d), (.int .i64 (i64 vk)), (.int .i64 (i64 vv)), (.int .i64 (i64 vs))], .rd A 4 n c (rcs xs)]) (fun k => 3 - k) 0 (by first | trivial | ((try dsimp only); first | omega | (refine ⟨?_, ?_⟩ <;> omega) | (refine ⟨?_, ?_, ?_⟩ <;> omega) | (simp; done) | (simp; omega))) (sc rfl (sc rfl (sc rfl (sc rfl sn)))) [0, 1, 2] ⟨by decide, rfl⟩ ?_
 rintro k hp
 have hp : k ≤ 3 := hp
 have hol : (xs ++ (List.replicate k (Rc.mk d vk vv vs) ++ List.replicate (3 - k) rc0)).length = n + 3 := by simp; omega
 refine T_re [(3, (.pointer (some ⟨g1, 0, none⟩))), (5, (.slice (some ⟨g2, 0, none⟩) (0 + n) (n + 3))), (6, (.slice (some ⟨g2, 0, none⟩) (n + 3) (n + 3))), (7, (.int .i64 ((n + k : Nat) : Int)))] (sc rfl (sc rfl (sc rfl (sc rfl sn)))) ?_
 refine T_he [0, 1, 2] [.blk g2 43 (rcs (xs ++ (List.replicate k (Rc.mk d vk vv vs) ++ List.replicate (3 - k) rc0))), .blk g1 43 [(.bool d), (.int .i64 (i64 vk)), (.int .i64 (i64 vv)), (.int .i64 (i64 vs))], .rd A 4 n c (rcs xs)] ⟨by decide, rfl⟩ ?_
 refine T_seq ?_
 refine Tsr hF rfl ?_
 refine lm rfl rfl rfl rfl rfl ?_
 refine lm rfl rfl rfl rfl rfl ?_
 refine lo rfl (pr_len_sl Try.underlying27 rfl rfl) rfl rfl ?_
 refine lo rfl (pr_cmp (bo := .lss) (nc_lt (a := n + k) (b := n + 3)) rfl rfl rfl rfl) rfl rfl ?_
 refine L_nil ?_
 refine T_cond (decide (n + k < n + 3)) rfl (fun hc_3 => ?_) (fun hc_3 => ?_)
 ·
  have hc_3 := of_decide_eq_true hc_3
  refine T_skip ?_
  refine T_seq ?_
  refine T_block ?_
  refine T_reg hF rfl ?_
  refine lm rfl rfl rfl rfl rfl ?_
  refine lm rfl rfl rfl rfl rfl ?_
  refine lq rfl (ld_agg (ds := [(.bool d), (.int .i64 (i64 vk)), (.int .i64 (i64 vv)), (.int .i64 (i64 vs))]) 1 rfl agg_all Try.underlying43 rfl kr rfl rfl) rfl rfl ?_
  refine lo rfl (pr_ixb (j := n + k) (m' := (n + k) * 4) sd (by omega) Try.underlying27 (z := 4) kr rfl rfl rfl) rfl rfl ?_
  refine L_op rfl (op_storeR (j := (n + k)) (r := (Rc.mk d vk vv vs)) 0 rfl kr sd rfl rfl rfl rfl ?_)
  refine L_nil ?_
  refine T_reg hF rfl ?_
  refine lm rfl rfl rfl rfl rfl ?_
  refine lo rfl (pr_add (na_i64 (a := n + k) (b := 1) sd) rfl rfl rfl) rfl rfl ?_
  refine la rfl rfl rfl rfl rfl ?_
  refine L_nil ?_
  refine T_slot 7 (.int .i64 ((n + k + 1 : Nat) : Int)) (.int .i64 ((n + (k + 1) : Nat) : Int)) rfl (by congr 1) ?_
  refine T_as 0 _ (.blk g2 43 (rcs (xs ++ (List.replicate (k + 1) (Rc.mk d vk vv vs) ++ List.replicate (3 - (k + 1)) rc0)))) rfl (by rw [ownr_step _ _ _ _ hx (by omega)]) ?_
  exact T_again (k + 1) (by first | trivial | ((try dsimp only); first | omega | (refine ⟨?_, ?_⟩ <;> omega) | (refine ⟨?_, ?_, ?_⟩ <;> omega) | (simp; done) | (simp; omega))) (by first | trivial | ((try dsimp only); first | omega | (refine ⟨?_, ?_⟩ <;> omega) | (refine ⟨?_, ?_, ?_⟩ <;> omega) | (simp; done) | (simp; omega))) (sc rfl (sc rfl (sc rfl (sc rfl sn)))) [0, 1, 2] ⟨by decide, rfl⟩
 ·
  have hc_3 := of_decide_eq_false hc_3
  refine T_exit rfl ?_
  refine Tsr hF rfl ?_
  refine lm rfl rfl rfl rfl rfl ?_
  refine la rfl rfl rfl rfl rfl ?_
  refine L_nil ?_
  refine T_ret ?_
  obtain rfl : 3 = k := by omega
  refine T_slot 4 (.slice (some ⟨g2, 0, none⟩) (0 + n) (n + 3)) (.slice (some ⟨g2, 0, none⟩) n (n + 3)) rfl (by first | rfl | (simp; done)) ?_
  refine T_oldb 0 (zs := (rcs (xs ++ [(Rc.mk d vk vv vs), (Rc.mk d vk vv vs), (Rc.mk d vk vv vs)]))) 0 4 (n + 3) (n + 3) rfl sd (by rw [List.drop_zero, List.take_of_length_le (by rw [rcs_len]; simp; omega)]; rfl) sd sd ?_
  refine T_pre 0 n ((rcs xs)) rfl sd (by rw [rcs_take, ← hx, List.take_left]) ?_
  exact T_fin (some ⟨g2, 0, none⟩, n + 3) (by first | trivial | omega | (simp; done)) (res1 rfl rfl) [1, 0] ⟨by decide, rfl⟩ rfl
set_option maxHeartbeats 4000000 in
theorem rkept_f (xs : List Rc) (A : Option Addr) (n : Nat) (c : Nat) (B : Option Addr) (e : Nat) (d : Bool) (vk : BitVec 64) (vv : BitVec 64) (vs : BitVec 64) (w : World) (hO : HOK [.rd A 4 n c (rcs xs), .rd A 4 (n + 3) c (rcs (xs ++ [(Rc.mk d vk vv vs), (Rc.mk d vk vv vs), (Rc.mk d vk vv vs)])), .rd B 4 n e (rcs xs)] w) (hx : xs.length = n) (hn : n ≤ 1000000) (hc : n + 3 ≤ c) : Calls Try.prog 26 [(.slice A n c), (.slice B n e), (.agg [(.bool d), (.int .i64 (i64 vk)), (.int .i64 (i64 vv)), (.int .i64 (i64 vs))].toArray)].toArray w (Ret (T := Unit) [] w (fun _ => True) (fun _ => (.bool true)) (fun _ => [])) := by
 have hF : Wid Fence.wide := wid_wide
 refine enter (c := _) Try.func26 rfl [] _ [.rd A 4 n c (rcs xs), .rd A 4 (n + 3) c (rcs (xs ++ [(Rc.mk d vk vv vs), (Rc.mk d vk vv vs), (Rc.mk d vk vv vs)])), .rd B 4 n e (rcs xs)] (by rw [Try.ntmps26]; rfl) (own_rds hO rfl) ?_
 rw [Try.ntmps26]
 refine T_re [(0, (.slice A n c)), (1, (.slice B n e)), (2, (.agg [(.bool d), (.int .i64 (i64 vk)), (.int .i64 (i64 vv)), (.int .i64 (i64 vs))].toArray))] (sc rfl (sc rfl (sc rfl sn))) ?_
 refine T_he [0, 1, 2] [.rd A 4 n c (rcs xs), .rd A 4 (n + 3) c (rcs (xs ++ [(Rc.mk d vk vv vs), (Rc.mk d vk vv vs), (Rc.mk d vk vv vs)])), .rd B 4 n e (rcs xs)] ⟨by decide, rfl⟩ ?_
 refine Tsr hF rfl ?_
 refine L_op rfl (op_box (zs := [(.bool d), (.int .i64 (i64 vk)), (.int .i64 (i64 vv)), (.int .i64 (i64 vs))]) rfl rfl rfl rfl rfl (fun g1 => ?_))
 refine la rfl rfl rfl rfl rfl ?_
 refine L_nil ?_
 refine T_seq ?_
 refine Tsr hF rfl ?_
 refine lm rfl rfl rfl rfl rfl ?_
 refine lm rfl rfl rfl rfl rfl ?_
 refine L_op rfl (op_cn (fun w hw => rplain_f xs A n c B e w (hok_cons ((src_rd 1 rfl) w hw) (hok_cons ((src_rd 3 rfl) w hw) (hok_nil w))) sd sd) (enters_of Try.func23 kr rfl) rfl rfl rfl rfl rfl (fun t2 q3 => ?_))
 refine lo rfl (pr_un (v := .bool false) rfl rfl rfl) rfl rfl ?_
 refine lm rfl rfl rfl rfl rfl ?_
 refine lm rfl rfl rfl rfl rfl ?_
 refine lo rfl (pr_cap_sl Try.underlying27 rfl rfl) rfl rfl ?_
 refine lm rfl rfl rfl rfl rfl ?_
 refine lo rfl (pr_len_sl Try.underlying27 rfl rfl) rfl rfl ?_
 refine lo rfl (pr_add (na_i64 (a := n) (b := 3) sd) rfl rfl rfl) rfl rfl ?_
 refine lo rfl (pr_cmp (bo := .lss) (nc_lt (a := c) (b := n + 3)) rfl rfl rfl rfl) rfl rfl ?_
 refine lo rfl (pr_pick_f rfl rfl rfl) rfl rfl ?_
 refine L_nil ?_
 refine T_cond_no (t := decide (c < n + 3)) rfl (by simp; omega) ?_
 refine T_skip ?_
 refine Tsr hF rfl ?_
 refine lm rfl rfl rfl rfl rfl ?_
 refine lm rfl rfl rfl rfl rfl ?_
 refine lo rfl (pr_len_sl Try.underlying27 rfl rfl) rfl rfl ?_
 refine lo rfl (pr_add (na_i64 (a := n) (b := 3) sd) rfl rfl rfl) rfl rfl ?_
 refine L_op rfl (op_slice_rd (l := 0) (u := n + 3) 2 rfl sd sd Try.underlying27 kr rfl rfl rfl ⟨_, rfl⟩ rfl rfl (fun B4 => ?_))
 refine T_as 0 _ (.rd B4 4 (n + 3) c (rcs (List.take (n + 3) (xs ++ [(Rc.mk d vk vv vs), (Rc.mk d vk vv vs), (Rc.mk d vk vv vs)])))) rfl (by rw [rcs_drop, rcs_take]; rfl) ?_
 refine T_slot 25 _ (.slice B4 (n + 3) c) rfl (by congr 1) ?_
 refine la rfl rfl rfl rfl rfl ?_
 refine L_nil ?_
 refine T_seq ?_
 refine Tsr hF rfl ?_
 refine lm rfl rfl rfl rfl rfl ?_
 refine lo rfl (pr_len_sl Try.underlying27 rfl rfl) rfl rfl ?_
 refine la rfl rfl rfl rfl rfl ?_
 refine L_nil ?_
 refine T_block ?_
 refine T_slot 8 (.int .i64 ((n : Nat) : Int)) (.int .i64 ((n + 0 : Nat) : Int)) rfl (by congr 1) ?_
 refine T_loop (T := Nat) (fun k => k ≤ 3) (fun k => [(5, (.pointer (some ⟨g1, 0, none⟩))), (7, (.slice B4 (n + 3) c)), (8, (.int .i64 ((n + k : Nat) : Int)))]) (fun k => [.rd B4 4 (n + 3) c (rcs (List.take (n + 3) (xs ++ [(Rc.mk d vk vv vs), (Rc.mk d vk vv vs), (Rc.mk d vk vv vs)]))), .blk g1 43 [(.bool d), (.int .i64 (i64 vk)), (.int .i64 (i64 vv)), (.int .i64 (i64 vs))], .rd A 4 n c (rcs xs), .rd A 4 (n + 3) c (rcs (xs ++ [(Rc.mk d vk vv vs), (Rc.mk d vk vv vs), (Rc.mk d vk vv vs)])), .rd B 4 n e (rcs xs)]) (fun k => 3 - k) 0 (by first | trivial | ((try dsimp only); first | omega | (refine ⟨?_, ?_⟩ <;> omega) | (refine ⟨?_, ?_, ?_⟩ <;> omega) | (simp; done) | (simp; omega))) (sc rfl (sc rfl (sc rfl sn))) [0, 1, 2, 3, 4] ⟨by decide, rfl⟩ ?_
 rintro k hp
 have hp : k ≤ 3 := hp
 refine T_re [(5, (.pointer (some ⟨g1, 0, none⟩))), (7, (.slice B4 (n + 3) c)), (8, (.int .i64 ((n + k : Nat) : Int)))] (sc rfl (sc rfl (sc rfl sn))) ?_
 refine T_he [0, 1, 2, 3, 4] [.rd B4 4 (n + 3) c (rcs (List.take (n + 3) (xs ++ [(Rc.mk d vk vv vs), (Rc.mk d vk vv vs), (Rc.mk d vk vv vs)]))), .blk g1 43 [(.bool d), (.int .i64 (i64 vk)), (.int .i64 (i64 vv)), (.int .i64 (i64 vs))], .rd A 4 n c (rcs xs), .rd A 4 (n + 3) c (rcs (xs ++ [(Rc.mk d vk vv vs), (Rc.mk d vk vv vs), (Rc.mk d vk vv vs)])), .rd B 4 n e (rcs xs)] ⟨by decide, rfl⟩ ?_
 refine T_seq ?_
 refine Tsr hF rfl ?_
 refine lm rfl rfl rfl rfl rfl ?_
 refine lm rfl rfl rfl rfl rfl ?_
 refine lo rfl (pr_len_sl Try.underlying27 rfl rfl) rfl rfl ?_
 refine lo rfl (pr_cmp (bo := .lss) (nc_lt (a := n + k) (b := n + 3)) rfl rfl rfl rfl) rfl rfl ?_
 refine L_nil ?_
 refine T_cond (decide (n + k < n + 3)) rfl (fun hc_5 => ?_) (fun hc_5 => ?_)
 ·
  have hc_5 := of_decide_eq_true hc_5
  refine T_skip ?_
  refine T_seq ?_
  refine T_block ?_
  refine T_seq ?_
  refine T_regD [.rd B4 4 (n + 3) c (rcs (List.take (n + 3) (xs ++ [(Rc.mk d vk vv vs), (Rc.mk d vk vv vs), (Rc.mk d vk vv vs)]))), .blk g1 43 [(.bool d), (.int .i64 (i64 vk)), (.int .i64 (i64 vv)), (.int .i64 (i64 vs))], .rd A 4 n c (rcs xs), .rd A 4 (n + 3) c (rcs (xs ++ [(Rc.mk d vk vv vs), (Rc.mk d vk vv vs), (Rc.mk d vk vv vs)])), .rd B 4 n e (rcs xs)] 6 6 #[false, false, false, false, false, false] hF kr kr ?_
  refine D_pure (i := 0) [0, 1, 2, 3, 4] rfl kr rfl (pr_move rfl rfl) (.inr rfl) rfl rfl ?_
  refine D_pure (i := 1) [0, 1, 2, 3, 4] rfl kr rfl (pr_move rfl rfl) (.inr rfl) rfl rfl ?_
  refine D_pure (i := 2) [0, 1, 2, 3, 4] rfl kr rfl (pr_ixs (j := n + k) (src_none (src_rd 0 rfl)) sd Try.underlying27 (z := 4) kr rfl rfl rfl) (.inr rfl) rfl rfl ?_
  refine D_take (i := 3) [0, 1, 2, 3, 4] rfl kr rfl (ld_rc (j := (n + k)) (src_rd 0 rfl) sd Try.underlying43 rfl kr rfl rfl) rfl rfl rfl ?_
  refine T_slot 37 _ (.agg [(.bool d), (.int .i64 (i64 vk)), (.int .i64 (i64 vv)), (.int .i64 (i64 vs))].toArray) rfl (by rw [ownr_at xs (Rc.mk d vk vv vs) n k hx (by omega)]) ?_
  refine D_take (i := 4) [0, 1, 2, 3, 4] rfl kr rfl (ld_agg (ds := [(.bool d), (.int .i64 (i64 vk)), (.int .i64 (i64 vv)), (.int .i64 (i64 vs))]) 1 rfl agg_all Try.underlying43 rfl kr rfl rfl) rfl rfl rfl ?_
  refine D_pure (i := 5) [0, 1, 2, 3, 4] rfl kr rfl (pr_eqs (bo := .neq) (c := true) (r := false) (fun _ _ => eqs Try.underlying43 kr (eqt rfl (part1 Try.underlying4 rfl rfl) (part1 Try.underlying4 rfl rfl) (eqv_sb Try.underlying4) (eqt rfl (part1 Try.underlying2 rfl rfl) (part1 Try.underlying2 rfl rfl) (eqv_si Try.underlying2) (eqt rfl (part1 Try.underlying2 rfl rfl) (part1 Try.underlying2 rfl rfl) (eqv_si Try.underlying2) (eqt rfl (part1 Try.underlying2 rfl rfl) (part1 Try.underlying2 rfl rfl) (eqv_si Try.underlying2) eqf_nil))))) kr rfl rfl rfl rfl rfl) (.inr rfl) rfl rfl ?_
  refine D_done kr ?_
  refine T_cond_f rfl ?_
  refine T_skip ?_
  refine T_reg hF rfl ?_
  refine lm rfl rfl rfl rfl rfl ?_
  refine lo rfl (pr_add (na_i64 (a := n + k) (b := 1) sd) rfl rfl rfl) rfl rfl ?_
  refine la rfl rfl rfl rfl rfl ?_
  refine L_nil ?_
  refine T_slot 8 (.int .i64 ((n + k + 1 : Nat) : Int)) (.int .i64 ((n + (k + 1) : Nat) : Int)) rfl (by congr 1) ?_
  exact T_again (k + 1) (by first | trivial | ((try dsimp only); first | omega | (refine ⟨?_, ?_⟩ <;> omega) | (refine ⟨?_, ?_, ?_⟩ <;> omega) | (simp; done) | (simp; omega))) (by first | trivial | ((try dsimp only); first | omega | (refine ⟨?_, ?_⟩ <;> omega) | (refine ⟨?_, ?_, ?_⟩ <;> omega) | (simp; done) | (simp; omega))) (sc rfl (sc rfl (sc rfl sn))) [0, 1, 2, 3, 4] ⟨by decide, rfl⟩
 ·
  have hc_5 := of_decide_eq_false hc_5
  refine T_exit rfl ?_
  refine Tsr hF rfl ?_
  refine la rfl rfl rfl rfl rfl ?_
  refine L_nil ?_
  refine T_ret ?_
  exact T_fin () (by first | trivial | omega | (simp; done)) (res1 rfl rfl) [] ⟨by decide, rfl⟩ rfl
end Go.Proofs.Ytlplpmkdebemnaa
namespace Go.Proofs.Ytlplpmkdebemnaa
set_option linter.unusedVariables false
set_option linter.unusedSimpArgs false
set_option linter.unnecessarySimpa false
set_option maxRecDepth 100000
open Go.RowKit Bv Fw

theorem aw_e : bpe 1 ((2 : Nat) : Int) = 0 := by decide
theorem aw_l : bpl 1 ((2 : Nat) : Int) = 64 := by decide
theorem aw_b : (bpb [(Rc.mk false 1#64 0#64 0#64)] ((2 : Nat) : Int)).length = 64 := by rw [bpb_len (n := 1) rfl]; decide
theorem aw_8 : ath (bpb [(Rc.mk false 1#64 0#64 0#64)] ((2 : Nat) : Int)) 8 = 1#8 := by decide +kernel
theorem aw_32 : ath (bpb [(Rc.mk false 1#64 0#64 0#64)] ((2 : Nat) : Int)) 32 = 1#8 := by decide +kernel

set_option maxHeartbeats 4000000 in
theorem awake10_f  (w : World) (hO : HOK [] w)  : Calls Try.prog 10 [].toArray w (Ret (T := Unit) [] w (fun _ => True) (fun _ => (.bool true)) (fun _ => [])) := by
 have hF : Wid Fence.wide := wid_wide
 refine enter (c := _) Try.func10 rfl [] _ [] (by rw [Try.ntmps10]; rfl) (own_rds hO rfl) ?_
 rw [Try.ntmps10]
 refine T_re [] sn ?_
 refine T_he [] [] ⟨by decide, rfl⟩ ?_
 refine Tsr hF rfl ?_
 refine la rfl rfl rfl rfl rfl ?_
 refine L_nil ?_
 refine Tsr hF rfl ?_
 refine lo rfl (pr_build (qs := [(1, (.int .i64 ((1 : Nat) : Int)))]) (v := .agg [(.bool false), (.int .i64 ((1 : Nat) : Int)), (.int .i64 ((0 : Nat) : Int)), (.int .i64 ((0 : Nat) : Int))].toArray) (fun _ => by kernel_rfl) rfl rfl) rfl rfl ?_
 refine L_op rfl (op_bslice (e := 43) (zs := [(.bool false), (.int .i64 ((1 : Nat) : Int)), (.int .i64 ((0 : Nat) : Int)), (.int .i64 ((0 : Nat) : Int))]) (qs := [(0, (.agg [(.bool false), (.int .i64 ((1 : Nat) : Int)), (.int .i64 ((0 : Nat) : Int)), (.int .i64 ((0 : Nat) : Int))].toArray))]) (fun _ => by kernel_rfl) rfl rfl rfl rfl (fun g1 => ?_))
 refine L_op rfl (op_cn (fun w hw => bpack_f [(Rc.mk false 1#64 0#64 0#64)] ((2 : Nat) : Int) (some ⟨g1, 0, none⟩) 1 1 w (hok_cons ((src_blk (z := 4) (ds := [(.bool false), (.int .i64 ((1 : Nat) : Int)), (.int .i64 ((0 : Nat) : Int)), (.int .i64 ((0 : Nat) : Int))]) 0 rfl rfl rfl sd sd) w hw) (hok_nil w)) sd sd) (enters_of Try.func9 kr rfl) rfl rfl rfl rfl rfl (fun t2 q3 => ?_))
 obtain ⟨B4, e5⟩ := t2
 refine lm rfl rfl rfl rfl rfl ?_
 refine lo rfl (pr_ext (vs := [(.slice B4 (bpl 1 ((2 : Nat) : Int)) e5), (.int .i64 (((bpe 1 ((2 : Nat) : Int)) : Nat) : Int))]) rfl rfl rfl) rfl rfl ?_
 refine T_as 0 _ (.row (.slice B4 64 e5) 5 1 64 ((bpb [(Rc.mk false 1#64 0#64 0#64)] ((2 : Nat) : Int)).map b8)) rfl (by rw [aw_l]) ?_
 refine T_slot 7 _ (.slice B4 64 e5) rfl (by rw [aw_l]) ?_
 have hab := aw_b
 refine lo rfl (pr_ext (vs := [(.slice B4 (bpl 1 ((2 : Nat) : Int)) e5), (.int .i64 (((bpe 1 ((2 : Nat) : Int)) : Nat) : Int))]) rfl rfl rfl) rfl rfl ?_
 refine la rfl rfl rfl rfl rfl ?_
 refine la rfl rfl rfl rfl rfl ?_
 refine L_nil ?_
 refine Tsr hF rfl ?_
 refine lm rfl rfl rfl rfl rfl ?_
 refine lo rfl (pr_cmp (bo := .eql) (nc_eq (a := (bpe 1 ((2 : Nat) : Int))) (b := 0)) rfl rfl rfl rfl) rfl rfl ?_
 refine lm rfl rfl rfl rfl rfl ?_
 refine T_slot 11 (.bool ((bpe 1 ((2 : Nat) : Int)) == 0)) (.bool true) rfl (congrArg _ (by rw [aw_e]; rfl)) ?_
 refine lm rfl rfl rfl rfl rfl ?_
 refine lo rfl (pr_len_sl Try.underlying23 rfl rfl) rfl rfl ?_
 refine lo rfl (pr_cmp (bo := .eql) (nc_eq (a := 64) (b := 64)) rfl rfl rfl rfl) rfl rfl ?_
 refine lo rfl (pr_pick_t rfl rfl rfl) rfl rfl ?_
 refine lm rfl rfl rfl rfl rfl ?_
 refine lm rfl rfl rfl rfl rfl ?_
 refine lo rfl (pr_ixs1 (j := 8) (src_none (src_row 0 rfl)) sd Try.underlying23 kr rfl rfl rfl) rfl rfl ?_
 refine lq rfl (ld_src (m := 8) (src_row 0 rfl) (get8 sd) Try.underlying5 rfl rfl rfl) rfl rfl ?_
 refine lo rfl (pr_cmp (bo := .eql) (n8_beq (ath (bpb [(Rc.mk false 1#64 0#64 0#64)] ((2 : Nat) : Int)) 8) (1#8)) rfl rfl rfl rfl) rfl rfl ?_
 refine lo rfl (pr_pick_t rfl rfl rfl) rfl rfl ?_
 refine lm rfl rfl rfl rfl rfl ?_
 refine T_slot 22 _ (.bool true) rfl (congrArg _ (by rw [aw_8]; rfl)) ?_
 refine lm rfl rfl rfl rfl rfl ?_
 refine lo rfl (pr_ixs1 (j := 32) (src_none (src_row 0 rfl)) sd Try.underlying23 kr rfl rfl rfl) rfl rfl ?_
 refine lq rfl (ld_src (m := 32) (src_row 0 rfl) (get8 sd) Try.underlying5 rfl rfl rfl) rfl rfl ?_
 refine lo rfl (pr_cmp (bo := .eql) (n8_beq (ath (bpb [(Rc.mk false 1#64 0#64 0#64)] ((2 : Nat) : Int)) 32) (1#8)) rfl rfl rfl rfl) rfl rfl ?_
 refine lo rfl (pr_pick_t rfl rfl rfl) rfl rfl ?_
 refine lm rfl rfl rfl rfl rfl ?_
 refine T_slot 28 _ (.bool true) rfl (congrArg _ (by rw [aw_32]; rfl)) ?_
 refine L_op rfl (op_cn (fun w hw => bsize_f ((2 : Nat) : Int) w (hok_nil w) ) (enters_of Try.func24 kr rfl) rfl rfl rfl rfl rfl (fun t9 q10 => ?_))
 refine lo rfl (pr_cmp (bo := .eql) (k := .i64) (a := (bsz ((2 : Nat) : Int))) (b := ((80 : Nat) : Int)) (c := ((bsz ((2 : Nat) : Int)) == ((80 : Nat) : Int))) rfl rfl rfl rfl rfl) rfl rfl ?_
 refine lo rfl (pr_pick_t rfl rfl rfl) rfl rfl ?_
 refine la rfl rfl rfl rfl rfl ?_
 refine L_nil ?_
 refine T_ret ?_
 refine T_slot 0 (.bool ((bsz ((2 : Nat) : Int)) == ((80 : Nat) : Int))) (.bool true) rfl (by first | rfl | (simp; done)) ?_
 exact T_fin () (by first | trivial | omega | (simp; done)) (res1 rfl rfl) [] ⟨by decide, rfl⟩ rfl
end Go.Proofs.Ytlplpmkdebemnaa
namespace Go.Proofs.Ytlplpmkdebemnaa
set_option linter.unusedVariables false
set_option linter.unusedSimpArgs false
set_option linter.unnecessarySimpa false
set_option maxRecDepth 100000
open Go.RowKit Bv Fw

set_option maxRecDepth 100000 in
set_option maxHeartbeats 4000000 in
theorem blockPlaces_f (job : List (BitVec 8)) (pp : BitVec 64) (pr : BitVec 64) (pa : BitVec 64) (pt : BitVec 64) (pi : BitVec 64) (ot : BitVec 64) (ix : BitVec 64) (xs : List Rc) (A : Option Addr) (n : Nat) (c : Nat) (w : World) (hO : HOK [.rd A 4 n c (rcs xs)] w) (hj : job.length = 32) (hx : xs.length = n) : Calls Try.prog 8 [(.agg (job.map b8).toArray), (.agg [(.int .i64 (i64 pp)), (.int .i64 (i64 pr)), (.int .i64 (i64 pa)), (b64 pt), (.int .i64 (i64 pi))].toArray), (b64 ot), (.int .i64 (i64 ix)), (.slice A n c)].toArray w (Ret (T := Unit) [] w (fun _ => True) (fun _ => (.bool true)) (fun _ => [])) := by
 have hF : Wid Fence.wide := wid_wide
 refine enter (c := _) Try.func8 rfl [] _ [.rd A 4 n c (rcs xs)] (by rw [Try.ntmps8]; rfl) (own_rds hO rfl) ?_
 rw [Try.ntmps8]
 refine T_re [(0, (.agg (job.map b8).toArray)), (1, (.agg [(.int .i64 (i64 pp)), (.int .i64 (i64 pr)), (.int .i64 (i64 pa)), (b64 pt), (.int .i64 (i64 pi))].toArray)), (2, (b64 ot)), (3, (.int .i64 (i64 ix))), (4, (.slice A n c))] (sc rfl (sc rfl (sc rfl (sc rfl (sc rfl sn))))) ?_
 refine T_he [0] [.rd A 4 n c (rcs xs)] ⟨by decide, rfl⟩ ?_
 refine Tsr hF rfl ?_
 refine L_op rfl (op_box (zs := (job.map b8)) rfl rfl rfl rfl rfl (fun g1 => ?_))
 refine L_op rfl (op_box (zs := [(.int .i64 (i64 pp)), (.int .i64 (i64 pr)), (.int .i64 (i64 pa)), (b64 pt), (.int .i64 (i64 pi))]) rfl rfl rfl rfl rfl (fun g2 => ?_))
 refine la rfl rfl rfl rfl rfl ?_
 refine L_nil ?_
 refine Tsr hF rfl ?_
 refine lm rfl rfl rfl rfl rfl ?_
 refine lm rfl rfl rfl rfl rfl ?_
 refine lo rfl (pr_len_sl Try.underlying27 rfl rfl) rfl rfl ?_
 refine lo rfl ((pr_as (pr_min rfl rfl rfl) (nmin (k := .i64) (a := n) (b := 4)))) rfl rfl ?_
 obtain ⟨m, hm⟩ : ∃ m : Nat, min n 4 = m := ⟨_, rfl⟩
 have hm4 : m ≤ 4 := by omega
 have hmn : m ≤ n := by omega
 refine T_slot 23 (.int .i64 ((min n 4 : Nat) : Int)) (.int .i64 ((m : Nat) : Int)) rfl (by rw [hm]) ?_
 refine L_op rfl (op_slice_rd (l := 0) (u := m) 2 rfl sd sd Try.underlying27 kr rfl rfl rfl ⟨_, rfl⟩ rfl rfl (fun B3 => ?_))
 refine T_as 0 _ (.rd B3 4 m c (rcs (List.take m xs))) rfl (by rw [rcs_drop, rcs_take]; rfl) ?_
 refine T_slot 24 _ (.slice B3 m c) rfl (by congr 1) ?_
 obtain ⟨ys, hys⟩ : ∃ x, (List.take m xs) = x := ⟨_, rfl⟩
 have hyl : ys.length = m := by rw [← hys, List.length_take]; omega
 have hbl : (bpb ys ((4 : Nat) : Int)).length = 128 := (bpb_len hyl).trans (bpl_q (by omega) (by omega) hm4)
 have hs1 := aseal_len (pkey job pp pr pa) (nonc pt pi) (paad pp pr pa pt pi 4) (bpb ys ((4 : Nat) : Int))
 have hs2 := aseal_len (pkey job pp pr pa) (nonc ot ix) (paad pp pr pa ot ix 4) (bpb ys ((4 : Nat) : Int))
 have hbt : bte (bpb ys ((4 : Nat) : Int)) ((4 : Nat) : Int) = 0 := bte_bpb hyl (by omega) (by omega) hm4
 have hbn : btn (bpb ys ((4 : Nat) : Int)) ((4 : Nat) : Int) = 4 := btn_ok hbt rfl
 have hbk : (btk (bpb ys ((4 : Nat) : Int)) ((4 : Nat) : Int)).length = 4 := (btk_len _ _).trans hbn
 refine T_as 0 _ (.rd B3 4 m c (rcs ys)) rfl (by rw [hys]) ?_
 refine la rfl rfl rfl rfl rfl ?_
 refine L_nil ?_
 refine Tsr hF rfl ?_
 refine lq rfl (ld_agg (ds := [(.int .i64 (i64 pp)), (.int .i64 (i64 pr)), (.int .i64 (i64 pa)), (b64 pt), (.int .i64 (i64 pi))]) 1 rfl agg_all Try.underlying59 rfl kr rfl rfl) rfl rfl ?_
 refine L_op rfl (op_alloc (z := .agg [(.int .i64 ((0 : Nat) : Int)), (.int .i64 ((0 : Nat) : Int)), (.int .i64 ((0 : Nat) : Int)), (b64 (0#64)), (.int .i64 ((0 : Nat) : Int))].toArray) (zs := [(.int .i64 ((0 : Nat) : Int)), (.int .i64 ((0 : Nat) : Int)), (.int .i64 ((0 : Nat) : Int)), (b64 (0#64)), (.int .i64 ((0 : Nat) : Int))]) kr rfl rfl rfl rfl (fun g4 => ?_))
 refine L_op rfl (op_sto (n := 5) (vs := [(.int .i64 (i64 pp)), (.int .i64 (i64 pr)), (.int .i64 (i64 pa)), (b64 pt), (.int .i64 (i64 pi))]) 0 rfl rfl kr (by simp [Value.oneCell']) kr kr rfl rfl rfl rfl ?_)
 refine L_nil ?_
 refine Tsr hF rfl ?_
 refine lm rfl rfl rfl rfl rfl ?_
 refine lm rfl rfl rfl rfl rfl ?_
 refine lo rfl (pr_fa (m := 0) (m' := 3) (z := 0) (by rfl) Try.underlying59 rfl kr rfl rfl) rfl rfl ?_
 refine L_op rfl (op_store (vs := [(b64 ot)]) (cs' := [(.int .i64 (i64 pp)), (.int .i64 (i64 pr)), (.int .i64 (i64 pa)), (b64 ot), (.int .i64 (i64 pi))]) 0 rfl rfl kr (one_one rfl) (by first | decide | simp | exact Nat.le_refl _) rfl rfl rfl rfl rfl ?_)
 refine lo rfl (pr_fa (m := 0) (m' := 4) (z := 0) (by rfl) Try.underlying59 rfl kr rfl rfl) rfl rfl ?_
 refine L_op rfl (op_store (vs := [(.int .i64 (i64 ix))]) (cs' := [(.int .i64 (i64 pp)), (.int .i64 (i64 pr)), (.int .i64 (i64 pa)), (b64 ot), (.int .i64 (i64 ix))]) 0 rfl rfl kr (one_one rfl) (by first | decide | simp | exact Nat.le_refl _) rfl rfl rfl rfl rfl ?_)
 refine L_nil ?_
 refine Tsr hF rfl ?_
 refine lq rfl (ld_agg (ds := (job.map b8)) 3 rfl agg_all Try.underlying50 rfl (fwz (n := 32) kr sd) rfl rfl) rfl rfl ?_
 refine lq rfl (ld_agg (ds := [(.int .i64 (i64 pp)), (.int .i64 (i64 pr)), (.int .i64 (i64 pa)), (b64 pt), (.int .i64 (i64 pi))]) 2 rfl agg_all Try.underlying59 rfl kr rfl rfl) rfl rfl ?_
 refine lm rfl rfl rfl rfl rfl ?_
 refine L_op rfl (op_cn (fun w hw => bseal_f job pp pr pa pt pi ys B3 m c 4 w (hok_cons ((src_rd 1 rfl) w hw) (hok_nil w)) (by first | assumption | exact sd) (by first | assumption | exact sd) sd sd sd) (enters_of Try.func31 kr rfl) rfl rfl rfl rfl rfl (fun t5 q6 => ?_))
 obtain ⟨B7, d8⟩ := t5
 refine lm rfl rfl rfl rfl rfl ?_
 refine lo rfl (pr_ext (vs := [(.slice B7 (32 * 4 + 16) d8), (.int .i64 ((0 : Nat) : Int))]) rfl rfl rfl) rfl rfl ?_
 refine T_slot 35 (.slice B7 (32 * 4 + 16) d8) (.slice B7 144 d8) rfl (by congr 1) ?_
 refine T_as 0 _ (.row (.slice B7 144 d8) 5 1 144 ((aseal (pkey job pp pr pa) (nonc pt pi) (paad pp pr pa pt pi 4) (bpb ys ((4 : Nat) : Int))).map b8)) rfl (rfl) ?_
 refine T_old 0 rfl ?_
 refine T_tord 0 rfl ?_
 refine lo rfl (pr_ext (vs := [(.slice B7 (32 * 4 + 16) d8), (.int .i64 ((0 : Nat) : Int))]) rfl rfl rfl) rfl rfl ?_
 refine la rfl rfl rfl rfl rfl ?_
 refine la rfl rfl rfl rfl rfl ?_
 refine L_nil ?_
 refine Tsr hF rfl ?_
 refine lq rfl (ld_agg (ds := (job.map b8)) 4 rfl agg_all Try.underlying50 rfl (fwz (n := 32) kr sd) rfl rfl) rfl rfl ?_
 refine lq rfl (ld_agg (ds := [(.int .i64 (i64 pp)), (.int .i64 (i64 pr)), (.int .i64 (i64 pa)), (b64 ot), (.int .i64 (i64 ix))]) 1 rfl agg_all Try.underlying59 rfl kr rfl rfl) rfl rfl ?_
 refine lm rfl rfl rfl rfl rfl ?_
 refine L_op rfl (op_cn (fun w hw => bseal_f job pp pr pa ot ix ys B3 m c 4 w (hok_cons ((src_rd 2 rfl) w hw) (hok_nil w)) (by first | assumption | exact sd) (by first | assumption | exact sd) sd sd sd) (enters_of Try.func31 kr rfl) rfl rfl rfl rfl rfl (fun t9 q10 => ?_))
 obtain ⟨B11, d12⟩ := t9
 refine lm rfl rfl rfl rfl rfl ?_
 refine lo rfl (pr_ext (vs := [(.slice B11 (32 * 4 + 16) d12), (.int .i64 ((0 : Nat) : Int))]) rfl rfl rfl) rfl rfl ?_
 refine T_slot 42 (.slice B11 (32 * 4 + 16) d12) (.slice B11 144 d12) rfl (by congr 1) ?_
 refine T_as 0 _ (.row (.slice B11 144 d12) 5 1 144 ((aseal (pkey job pp pr pa) (nonc ot ix) (paad pp pr pa ot ix 4) (bpb ys ((4 : Nat) : Int))).map b8)) rfl (rfl) ?_
 refine T_old 0 rfl ?_
 refine T_tord 0 rfl ?_
 refine lo rfl (pr_ext (vs := [(.slice B11 (32 * 4 + 16) d12), (.int .i64 ((0 : Nat) : Int))]) rfl rfl rfl) rfl rfl ?_
 refine la rfl rfl rfl rfl rfl ?_
 refine la rfl rfl rfl rfl rfl ?_
 refine L_nil ?_
 refine Tsr hF rfl ?_
 refine lq rfl (ld_agg (ds := (job.map b8)) 5 rfl agg_all Try.underlying50 rfl (fwz (n := 32) kr sd) rfl rfl) rfl rfl ?_
 refine lq rfl (ld_agg (ds := [(.int .i64 (i64 pp)), (.int .i64 (i64 pr)), (.int .i64 (i64 pa)), (b64 pt), (.int .i64 (i64 pi))]) 4 rfl agg_all Try.underlying59 rfl kr rfl rfl) rfl rfl ?_
 refine lm rfl rfl rfl rfl rfl ?_
 refine L_op rfl (op_cn (fun w hw => bopen_ok_f job pp pr pa pt pi (aseal (pkey job pp pr pa) (nonc pt pi) (paad pp pr pa pt pi 4) (bpb ys ((4 : Nat) : Int))) B7 144 d8 4 w (hok_cons ((src_rd 1 rfl) w hw) (hok_nil w)) (by first | assumption | exact sd) (by first | assumption | exact sd) sd sd sd sd (agood_seal _ _ _ _)) (enters_of Try.func32 kr rfl) rfl rfl rfl rfl rfl (fun t13 q14 => ?_))
 obtain ⟨E15, e16⟩ := t13
 refine lm rfl rfl rfl rfl rfl ?_
 refine lo rfl (pr_ext (vs := [(.slice E15 (btn (aplain (pkey job pp pr pa) (nonc pt pi) (aseal (pkey job pp pr pa) (nonc pt pi) (paad pp pr pa pt pi 4) (bpb ys ((4 : Nat) : Int)))) ((4 : Nat) : Int)) e16), (.int .i64 (((bte (aplain (pkey job pp pr pa) (nonc pt pi) (aseal (pkey job pp pr pa) (nonc pt pi) (paad pp pr pa pt pi 4) (bpb ys ((4 : Nat) : Int)))) ((4 : Nat) : Int)) : Nat) : Int))]) rfl rfl rfl) rfl rfl ?_
 refine T_slot 49 _ (.slice E15 4 e16) rfl (by rw [aplain_seal, hbn]) ?_
 refine T_as 0 _ (.row (.slice E15 4 e16) 43 4 4 (rcs (btk (bpb ys ((4 : Nat) : Int)) ((4 : Nat) : Int)))) rfl (by rw [aplain_seal, hbn]) ?_
 refine T_old 0 rfl ?_
 refine T_tord 0 rfl ?_
 refine lo rfl (pr_ext (vs := [(.slice E15 (btn (aplain (pkey job pp pr pa) (nonc pt pi) (aseal (pkey job pp pr pa) (nonc pt pi) (paad pp pr pa pt pi 4) (bpb ys ((4 : Nat) : Int)))) ((4 : Nat) : Int)) e16), (.int .i64 (((bte (aplain (pkey job pp pr pa) (nonc pt pi) (aseal (pkey job pp pr pa) (nonc pt pi) (paad pp pr pa pt pi 4) (bpb ys ((4 : Nat) : Int)))) ((4 : Nat) : Int)) : Nat) : Int))]) rfl rfl rfl) rfl rfl ?_
 refine T_slot 50 _ (.int .i64 ((0 : Nat) : Int)) rfl (by rw [aplain_seal, hbt]) ?_
 refine la rfl rfl rfl rfl rfl ?_
 refine la rfl rfl rfl rfl rfl ?_
 refine L_nil ?_
 refine Tsr hF rfl ?_
 refine lq rfl (ld_agg (ds := (job.map b8)) 6 rfl agg_all Try.underlying50 rfl (fwz (n := 32) kr sd) rfl rfl) rfl rfl ?_
 refine lq rfl (ld_agg (ds := [(.int .i64 (i64 pp)), (.int .i64 (i64 pr)), (.int .i64 (i64 pa)), (b64 ot), (.int .i64 (i64 ix))]) 3 rfl agg_all Try.underlying59 rfl kr rfl rfl) rfl rfl ?_
 refine lm rfl rfl rfl rfl rfl ?_
 refine L_op rfl (op_cn (fun w hw => bopen_ok_f job pp pr pa ot ix (aseal (pkey job pp pr pa) (nonc ot ix) (paad pp pr pa ot ix 4) (bpb ys ((4 : Nat) : Int))) B11 144 d12 4 w (hok_cons ((src_rd 1 rfl) w hw) (hok_nil w)) (by first | assumption | exact sd) (by first | assumption | exact sd) sd sd sd sd (agood_seal _ _ _ _)) (enters_of Try.func32 kr rfl) rfl rfl rfl rfl rfl (fun t17 q18 => ?_))
 obtain ⟨E19, e20⟩ := t17
 refine lm rfl rfl rfl rfl rfl ?_
 refine lo rfl (pr_ext (vs := [(.slice E19 (btn (aplain (pkey job pp pr pa) (nonc ot ix) (aseal (pkey job pp pr pa) (nonc ot ix) (paad pp pr pa ot ix 4) (bpb ys ((4 : Nat) : Int)))) ((4 : Nat) : Int)) e20), (.int .i64 (((bte (aplain (pkey job pp pr pa) (nonc ot ix) (aseal (pkey job pp pr pa) (nonc ot ix) (paad pp pr pa ot ix 4) (bpb ys ((4 : Nat) : Int)))) ((4 : Nat) : Int)) : Nat) : Int))]) rfl rfl rfl) rfl rfl ?_
 refine T_slot 56 _ (.slice E19 4 e20) rfl (by rw [aplain_seal, hbn]) ?_
 refine T_as 0 _ (.row (.slice E19 4 e20) 43 4 4 (rcs (btk (bpb ys ((4 : Nat) : Int)) ((4 : Nat) : Int)))) rfl (by rw [aplain_seal, hbn]) ?_
 refine T_old 0 rfl ?_
 refine T_tord 0 rfl ?_
 refine lo rfl (pr_ext (vs := [(.slice E19 (btn (aplain (pkey job pp pr pa) (nonc ot ix) (aseal (pkey job pp pr pa) (nonc ot ix) (paad pp pr pa ot ix 4) (bpb ys ((4 : Nat) : Int)))) ((4 : Nat) : Int)) e20), (.int .i64 (((bte (aplain (pkey job pp pr pa) (nonc ot ix) (aseal (pkey job pp pr pa) (nonc ot ix) (paad pp pr pa ot ix 4) (bpb ys ((4 : Nat) : Int)))) ((4 : Nat) : Int)) : Nat) : Int))]) rfl rfl rfl) rfl rfl ?_
 refine T_slot 57 _ (.int .i64 ((0 : Nat) : Int)) rfl (by rw [aplain_seal, hbt]) ?_
 refine la rfl rfl rfl rfl rfl ?_
 refine la rfl rfl rfl rfl rfl ?_
 refine L_nil ?_
 refine Tsr hF rfl ?_
 refine L_op rfl (op_cn (fun w hw => awake10_f  w (hok_nil w) ) (enters_of Try.func10 kr rfl) rfl rfl rfl rfl rfl (fun t21 q22 => ?_))
 refine lm rfl rfl rfl rfl rfl ?_
 refine lm rfl rfl rfl rfl rfl ?_
 refine lo rfl (pr_cmp (bo := .eql) (nc_eq (a := 0) (b := 0)) rfl rfl rfl rfl) rfl rfl ?_
 refine lo rfl (pr_pick_t rfl rfl rfl) rfl rfl ?_
 refine lm rfl rfl rfl rfl rfl ?_
 refine lm rfl rfl rfl rfl rfl ?_
 refine lo rfl (pr_cmp (bo := .eql) (nc_eq (a := 0) (b := 0)) rfl rfl rfl rfl) rfl rfl ?_
 refine lo rfl (pr_pick_t rfl rfl rfl) rfl rfl ?_
 refine lm rfl rfl rfl rfl rfl ?_
 refine lm rfl rfl rfl rfl rfl ?_
 refine lo rfl (pr_cmp (bo := .eql) (nc_eq (a := 0) (b := 0)) rfl rfl rfl rfl) rfl rfl ?_
 refine lo rfl (pr_pick_t rfl rfl rfl) rfl rfl ?_
 refine lm rfl rfl rfl rfl rfl ?_
 refine lm rfl rfl rfl rfl rfl ?_
 refine lo rfl (pr_cmp (bo := .eql) (nc_eq (a := 0) (b := 0)) rfl rfl rfl rfl) rfl rfl ?_
 refine lo rfl (pr_pick_t rfl rfl rfl) rfl rfl ?_
 refine lm rfl rfl rfl rfl rfl ?_
 refine lm rfl rfl rfl rfl rfl ?_
 refine lo rfl (pr_len_sl Try.underlying23 rfl rfl) rfl rfl ?_
 refine lm rfl rfl rfl rfl rfl ?_
 refine lo rfl (pr_len_sl Try.underlying23 rfl rfl) rfl rfl ?_
 refine lo rfl (pr_cmp (bo := .eql) (nc_eq (a := 144) (b := 144)) rfl rfl rfl rfl) rfl rfl ?_
 refine lo rfl (pr_pick_t rfl rfl rfl) rfl rfl ?_
 refine lm rfl rfl rfl rfl rfl ?_
 refine lm rfl rfl rfl rfl rfl ?_
 refine lm rfl rfl rfl rfl rfl ?_
 refine L_op rfl (op_cn (fun w hw => rplain_f (btk (bpb ys ((4 : Nat) : Int)) ((4 : Nat) : Int)) E15 4 e16 E19 e20 w (hok_cons ((src_rd 1 rfl) w hw) (hok_cons ((src_rd 0 rfl) w hw) (hok_nil w))) sd sd) (enters_of Try.func23 kr rfl) rfl rfl rfl rfl rfl (fun t23 q24 => ?_))
 refine lo rfl (pr_pick_t rfl rfl rfl) rfl rfl ?_
 refine la rfl rfl rfl rfl rfl ?_
 refine L_nil ?_
 refine T_ret ?_
 exact T_fin () (by first | trivial | omega | (simp; done)) (res1 rfl rfl) [] ⟨by decide, rfl⟩ rfl
end Go.Proofs.Ytlplpmkdebemnaa
namespace Go.Proofs.Ytlplpmkdebemnaa.blockPlaces
open Fw Go.ChangeShapes Go.WideShapes Go.ChangeAt Go.RowKit Bv
open Go.ChangeMaps (open_string shut_string)
set_option linter.unusedVariables false
theorem own : ownKnob Try.prog.godebug = none := by kernel_rfl
theorem laidOut : laidOutB Try.prog = true := by kernel_rfl
set_option maxRecDepth 100000 in
theorem lifted (os : Os) (started : os.Started) (H : Type) (enc : TypeId × Value → H) :
    ReturnsInHanded {} Try.checked os 8 .any (Rows.blockPlacesSpec.pre6 enc Try.prog Try.f8 Rows.blockPlacesRow.domain false) (Rows.blockPlacesSpec.post enc Try.prog Try.f8 false true false false) := by
  refine returnsInHanded_of_change (C := Try.checked) own started (by kernel_rfl) Try.func8
    (ChangeSpec.witness6 (enc := enc) (C := Try.checked) false ⟨#[], #[.agg (Array.replicate 32 (.int .u8 0)), .agg #[.int .i64 0, .int .i64 0, .int .i64 0, .int .u64 0, .int .i64 0], .int .u64 0, .int .i64 0, .slice none 0 0], []⟩ 8 (by kernel_rfl) (by kernel_rfl) (by kernel_rfl) (by kernel_rfl)) ?_
  intro W base args ds gs before hval0 hW hcnd _
  have hval : ∀ (j : Nat) t v, Try.f8.params[j]? = some t → args[j]? = some v → Value.okWide Try.prog W .any base t v := hval0
  have hW' := hW
  obtain ⟨p, q, hA0, hV, rfl, hfz, hnd⟩ := hW
  have hA : DataW.TrodAll enc Try.prog W 0 (fun _ => true) true Try.f8.params.toList args.toList ds p := hA0
  rw [Try.params8] at hA hval
  obtain ⟨v0, vs0, d0, ds0, p0, q0, hargs, rfl, rfl, h0, r0⟩ := trodAll_cons hA
  obtain ⟨v1, vs1, d1, ds1, p1, q1, rfl, rfl, rfl, h1, r1⟩ := trodAll_cons r0
  obtain ⟨v2, vs2, d2, ds2, p2, q2, rfl, rfl, rfl, h2, r2⟩ := trodAll_cons r1
  obtain ⟨v3, vs3, d3, ds3, p3, q3, rfl, rfl, rfl, h3, r3⟩ := trodAll_cons r2
  obtain ⟨v4, vs4, d4, ds4, p4, q4, rfl, rfl, rfl, h4, r4⟩ := trodAll_cons r3
  obtain ⟨rfl, rfl, rfl⟩ := trodAll_nil r4
  obtain rfl : args = #[v0, v1, v2, v3, v4] := by cases args; simp_all
  obtain ⟨rfl, rfl⟩ := trodVars_none hV
  have k0 := h0
  have lt0 : ∀ x ∈ p0, x.block < W.heap.size := by obtain ⟨m, hm⟩ := k0; exact DataW.trod_lt m _ _ _ hm
  obtain ⟨fu0, hf0⟩ := h0
  obtain ⟨x0, hx0, rfl⟩ := open_arr (n := 32) n8 all8 Try.underlying50 Try.underlying5 (by kernel_rfl) (by kernel_rfl) (hval 0 50 v0 rfl rfl) hf0
  have k1 := h1
  have lt1 : ∀ x ∈ p1, x.block < W.heap.size := by obtain ⟨m, hm⟩ := k1; exact DataW.trod_lt m _ _ _ hm
  obtain ⟨fu1, hf1⟩ := h1
  obtain ⟨cs1, rfl, hl1, hs1⟩ := open_struct Try.underlying59 (hval 1 59 v1 rfl rfl) hf1
  have hl1 := hl1.trans (show _ = 5 by kernel_rfl)
  obtain ⟨c1_0, r1_0, rfl, hl1_0⟩ := cons_of hl1
  obtain ⟨c1_1, r1_1, rfl, hl1_1⟩ := cons_of hl1_0
  obtain ⟨c1_2, r1_2, rfl, hl1_2⟩ := cons_of hl1_1
  obtain ⟨c1_3, r1_3, rfl, hl1_3⟩ := cons_of hl1_2
  obtain ⟨c1_4, r1_4, rfl, hl1_4⟩ := cons_of hl1_3
  obtain rfl := List.length_eq_zero_iff.1 hl1_4
  obtain ⟨z1_0, rfl, w1_0⟩ := field_int hs1 0 rfl Try.underlying3 (by kernel_rfl) rfl
  obtain ⟨x1_0, rfl⟩ := exi64 w1_0
  obtain ⟨z1_1, rfl, w1_1⟩ := field_int hs1 1 rfl Try.underlying3 (by kernel_rfl) rfl
  obtain ⟨x1_1, rfl⟩ := exi64 w1_1
  obtain ⟨z1_2, rfl, w1_2⟩ := field_int hs1 2 rfl Try.underlying3 (by kernel_rfl) rfl
  obtain ⟨x1_2, rfl⟩ := exi64 w1_2
  obtain ⟨z1_3, rfl, w1_3⟩ := field_int hs1 3 rfl Try.underlying30 (by kernel_rfl) rfl
  obtain ⟨x1_3, rfl⟩ := ex64 w1_3
  obtain ⟨z1_4, rfl, w1_4⟩ := field_int hs1 4 rfl Try.underlying3 (by kernel_rfl) rfl
  obtain ⟨x1_4, rfl⟩ := exi64 w1_4
  clear hs1 hf1
  obtain ⟨a2, rfl, rfl, rfl, w2⟩ := open_int Try.underlying30 (hval 2 30 v2 rfl rfl) h2
  obtain ⟨x2, rfl⟩ := ex64 w2
  obtain ⟨a3, rfl, rfl, rfl, w3⟩ := open_int Try.underlying3 (hval 3 3 v3 rfl rfl) h3
  obtain ⟨x3, rfl⟩ := exi64 w3
  have k4 := h4
  have lt4 : ∀ x ∈ p4, x.block < W.heap.size := by obtain ⟨m, hm⟩ := k4; exact DataW.trod_lt m _ _ _ hm
  obtain ⟨A4, len4, cap4, rfl⟩ := okWide_slice Try.underlying27 (hval 4 27 v4 rfl rfl)
  obtain ⟨fu4, hf4⟩ := h4
  obtain ⟨x4, l4, w4⟩ := open_recs Try.underlying27 (by kernel_rfl) (rec_of Try.underlying43 rfl rfl rfl rfl rfl rfl rfl rfl Try.underlying4 Try.underlying2 Try.underlying2 Try.underlying2 (by kernel_rfl) (by kernel_rfl) (by kernel_rfl) (by kernel_rfl)) hf4
  clear hA0 hval0
  have fin := blockPlaces_f x0 x1_0 x1_1 x1_2 x1_3 x1_4 x2 x3 x4 A4 len4 cap4 W (hok_cons w4 (hok_nil W)) hx0 l4
  refine (law_of_ret fin).mono fun e W' ⟨he, bel⟩ => ?_
  subst he
  exact ⟨_, rfl, _, _, _, [], _, [], hW', trodAll_mk1 (shut_bool Try.underlying4 _), (trodAll_cons_mk (Below.trod laidOut (by kernel_rfl) (of_decide_eq_true (by kernel_rfl)) k0 bel lt0) (trodAll_cons_mk (Below.trod laidOut (by kernel_rfl) (of_decide_eq_true (by kernel_rfl)) k1 bel lt1) (trodAll_cons_mk (shut_int Try.underlying30 w2) (trodAll_cons_mk (shut_int Try.underlying3 w3) (trodAll_cons_mk (Below.trod laidOut (by kernel_rfl) (of_decide_eq_true (by kernel_rfl)) k4 bel lt4) trodAll_mk0))))), rfl, bel.frame _, fun h => by cases h⟩
theorem over : Rows.blockPlacesRow.holds Try.pinned (OpenSpec.ofChange Rows.blockPlacesSpec) :=
  OpenClaim.holds_of_wide 8 Try.f8 rfl rfl rfl rfl rfl rfl rfl ⟨rfl, rfl, rfl, rfl, rfl⟩ rfl rfl rfl rfl rfl (by kernel_rfl) Try.func8 (by kernel_rfl)
    (of_decide_eq_true (by kernel_rfl)) (by unfold Func.isWrapper; first | (rw [if_pos (by decide +kernel)]; kernel_rfl) | (rw [if_neg (by decide +kernel)]; exact ⟨rfl, rfl⟩))
    (fun os started H enc _ => lifted os started H enc)
theorem proved : Rows.BlockPlacesSaid := over
#print axioms proved
end Go.Proofs.Ytlplpmkdebemnaa.blockPlaces
