/- The statements of layer 6, walked by facts. -/
import Derived.Test.YtemjinkdfjoicaaGPoly3
import Derived.Test.YtemjinkdfjoicaaGPoly4
import Derived.Test.YtemjinkdfjoicaaGHlp
import Derived.Test.YtemjinkdfjoicaaPolyW
import Derived.Test.YtemjinkdfjoicaaFwW
import Derived.Test.YtemjinkdfjoicaaProg
import Derived.Test.YtemjinkdfjoicaaFwU
namespace Go.Proofs.Ytemjinkdfjoicaa
set_option linter.unusedVariables false
set_option linter.unusedSimpArgs false
set_option linter.unnecessarySimpa false
open Go.RowKit Bv Fw

theorem c6_one {A : Option Addr} {a b : Nat} {xs : List (BitVec 8)} : catp [⟨A, a, b, xs⟩] = xs := by simp [catp]
theorem c6_two {A B : Option Addr} {a b c d k : Nat} {xs : List (BitVec 8)} : catp [⟨A, a, b, List.take k xs⟩, ⟨B, c, d, List.drop k xs⟩] = xs := by simp [catp]
theorem c6_mid {A B C : Option Addr} {a b c d e f : Nat} {xs : List (BitVec 8)} : catp [⟨A, a, b, []⟩, ⟨B, c, d, xs⟩, ⟨C, e, f, []⟩] = xs := by simp [catp]
/-- 0, 1, 2 .. in the first i of 32 places. -/
def asc8 (i : Nat) : List (BitVec 8) := (List.range i).map (fun j => BitVec.ofNat 8 j) ++ List.replicate (32 - i) 0#8
theorem asc8_len (i : Nat) (h : i ≤ 32) : (asc8 i).length = 32 := by unfold asc8; simp; omega
theorem asc8_set (i : Nat) (h : i < 32) : (asc8 i).set i (BitVec.ofNat 8 i) = asc8 (i + 1) := by
  unfold asc8
  rw [List.set_append_right _ _ (by simp), show i - ((List.range i).map (fun j => BitVec.ofNat 8 j)).length = 0 by simp, show 32 - i = (32 - (i + 1)) + 1 by omega, List.replicate_succ, List.set_cons_zero, List.range_succ, List.map_append]
  simp
theorem asc_tag : ∀ x ∈ [(0, 16#8), (15, 31#8)], ath (ptag (asc8 32) []) x.1 = x.2 := by
  intro x hx
  rw [ptag_nil _ (asc8_len 32 (by omega))]
  simp only [List.mem_cons, List.not_mem_nil, or_false] at hx
  rcases hx with rfl | rfl <;> rfl

set_option maxHeartbeats 4000000 in
theorem awake6_f  (w : World) (hO : HOK [] w)  : Calls Try.prog 16 [].toArray w (Ret (T := Unit) [] w (fun _ => True) (fun _ => (.bool true)) (fun _ => [])) := by
  have hsl := ptag_len (asc8 32) []
  have hF : Wid Fence.wide := wid_wide
  refine enter (c := _) Try.func16 rfl [] [] [] (by rw [Try.ntmps16]; rfl) (own_rds hO rfl) ?_
  rw [Try.ntmps16]
  refine T_re [] sn ?_
  refine T_he [] [] ⟨by decide, rfl⟩ ?_
  refine T_seq ?_
  refine T_reg hF rfl ?_
  refine L_op rfl (op_pr (pr_assign rfl rfl) rfl rfl ?_)
  refine L_nil ?_
  refine T_re [] sn ?_
  refine T_he [] [] ⟨by decide, rfl⟩ ?_
  refine T_seq ?_
  refine T_reg hF rfl ?_
  refine L_op rfl (op_alloc (z := .agg ((List.replicate 32 0#8).map b8).toArray) (zs := ((List.replicate 32 0#8).map b8)) (by kernel_rfl) rfl rfl rfl rfl (fun g1 => ?_))
  refine L_nil ?_
  refine T_re [(1, (.pointer (some ⟨g1, 0, none⟩)))] (sc rfl sn) ?_
  refine T_he [0] [.blk g1 22 ((List.replicate 32 0#8).map b8)] ⟨by decide, rfl⟩ ?_
  refine T_seq ?_
  refine T_seq ?_
  refine T_reg hF rfl ?_
  refine L_op rfl (op_pr (pr_move rfl rfl) rfl rfl ?_)
  refine L_nil ?_
  refine T_re [(1, (.pointer (some ⟨g1, 0, none⟩))), (4, (.int .i64 ((0 : Nat) : Int)))] (sc rfl (sc rfl sn)) ?_
  refine T_he [0] [.blk g1 22 ((List.replicate 32 0#8).map b8)] ⟨by decide, rfl⟩ ?_
  refine T_block ?_
  refine T_as 0 (.blk g1 22 ((List.replicate 32 0#8).map b8)) (.blk g1 22 ((asc8 0).map b8)) rfl (by rfl) ?_
  refine T_loop (T := Nat) (fun i => i ≤ 32) (fun i => [(1, (.pointer (some ⟨g1, 0, none⟩))), (4, (.int .i64 ((i : Nat) : Int)))]) (fun i => [.blk g1 22 ((asc8 i).map b8)]) (fun i => 32 - i) 0 (by first | trivial | ((try dsimp only); first | omega | (refine ⟨?_, ?_⟩ <;> omega) | (refine ⟨?_, ?_, ?_⟩ <;> omega) | (simp; done) | (simp; omega))) (sc rfl (sc rfl sn)) [0] ⟨by decide, rfl⟩ ?_
  rintro i hp
  have hp : i ≤ 32 := hp
  have hal := asc8_len i hp
  refine T_re [(1, (.pointer (some ⟨g1, 0, none⟩))), (4, (.int .i64 ((i : Nat) : Int)))] (sc rfl (sc rfl sn)) ?_
  refine T_he [0] [.blk g1 22 ((asc8 i).map b8)] ⟨by decide, rfl⟩ ?_
  refine T_seq ?_
  refine T_reg hF rfl ?_
  refine L_op rfl (op_pr (pr_cmp (bo := .lss) (nc_lt (a := i) (b := 32)) rfl rfl rfl rfl) rfl rfl ?_)
  refine L_nil ?_
  refine T_re [(1, (.pointer (some ⟨g1, 0, none⟩))), (4, (.int .i64 ((i : Nat) : Int))), (5, (.bool (decide (i < 32))))] (sc rfl (sc rfl (sc rfl sn))) ?_
  refine T_he [0] [.blk g1 22 ((asc8 i).map b8)] ⟨by decide, rfl⟩ ?_
  refine T_seq ?_
  refine T_cond (decide (i < 32)) rfl (fun hc_2 => ?_) (fun hc_2 => ?_)
  · skip
    have hc_2 := of_decide_eq_true hc_2
    refine T_skip ?_
    refine T_seq ?_
    refine T_block ?_
    refine T_seq ?_
    refine T_reg hF rfl ?_
    refine L_op rfl (op_pr (pr_move rfl rfl) rfl rfl ?_)
    refine L_op rfl (op_pr (pr_assign rfl rfl) rfl rfl ?_)
    refine L_nil ?_
    refine T_re [(1, (.pointer (some ⟨g1, 0, none⟩))), (2, (.int .i64 ((i : Nat) : Int))), (4, (.int .i64 ((i : Nat) : Int)))] (sc rfl (sc rfl (sc rfl sn))) ?_
    refine T_he [0] [.blk g1 22 ((asc8 i).map b8)] ⟨by decide, rfl⟩ ?_
    refine T_reg hF rfl ?_
    refine L_op rfl (op_pr (pr_move rfl rfl) rfl rfl ?_)
    refine L_op rfl (op_pr (pr_move rfl rfl) rfl rfl ?_)
    refine L_op rfl (op_pr (pr_cv (nw8 i) Try.underlying3 Try.underlying5 rfl rfl) rfl rfl ?_)
    refine L_op rfl (op_pr (pr_ixa (j := i) (m' := i) sd (by omega) Try.underlying22 (z := 1) (by kernel_rfl) rfl rfl rfl) rfl rfl ?_)
    refine L_op rfl (op_store (vs := [(b8 (BitVec.ofNat 8 i))]) (cs' := ((List.set (asc8 i) i (BitVec.ofNat 8 i)).map b8)) 0 rfl rfl (by kernel_rfl) (one_one rfl) (by have : i < ((asc8 i)).length := sd; simp only [List.length_map, List.length_singleton]; omega) (splice_map (f := b8) sd) rfl rfl rfl rfl ?_)
    refine L_nil ?_
    refine T_re [(1, (.pointer (some ⟨g1, 0, none⟩))), (4, (.int .i64 ((i : Nat) : Int)))] (sc rfl (sc rfl sn)) ?_
    refine T_he [0] [.blk g1 22 ((List.set (asc8 i) i (BitVec.ofNat 8 i)).map b8)] ⟨by decide, rfl⟩ ?_
    refine T_reg hF rfl ?_
    refine L_op rfl (op_pr (pr_add (na_i64 (a := i) (b := 1) sd) rfl rfl rfl) rfl rfl ?_)
    refine L_op rfl (op_pr (pr_move rfl rfl) rfl rfl ?_)
    refine L_nil ?_
    refine T_re [(1, (.pointer (some ⟨g1, 0, none⟩))), (4, (.int .i64 ((i + 1 : Nat) : Int)))] (sc rfl (sc rfl sn)) ?_
    refine T_he [0] [.blk g1 22 ((List.set (asc8 i) i (BitVec.ofNat 8 i)).map b8)] ⟨by decide, rfl⟩ ?_
    refine T_as 0 (.blk g1 22 ((List.set (asc8 i) i (BitVec.ofNat 8 i)).map b8)) (.blk g1 22 ((asc8 (i + 1)).map b8)) rfl (by rw [asc8_set i (by omega)]) ?_
    exact T_again (i + 1) (by first | trivial | ((try dsimp only); first | omega | (refine ⟨?_, ?_⟩ <;> omega) | (refine ⟨?_, ?_, ?_⟩ <;> omega) | (simp; done) | (simp; omega))) (by first | trivial | ((try dsimp only); first | omega | (refine ⟨?_, ?_⟩ <;> omega) | (refine ⟨?_, ?_, ?_⟩ <;> omega) | (simp; done) | (simp; omega))) (sc rfl (sc rfl sn)) [0] ⟨by decide, rfl⟩
  · skip
    have hc_2 := of_decide_eq_false hc_2
    refine T_exit rfl ?_
    obtain rfl : 32 = i := by omega
    refine T_seq ?_
    refine T_reg hF rfl ?_
    refine L_op rfl (op_ld (ld_agg (ds := ((asc8 32).map b8)) 0 rfl agg_all Try.underlying22 rfl (by rw [show (((asc8 32).map b8)).length = 32 from sd]; kernel_rfl) rfl rfl) rfl rfl ?_)
    refine L_op rfl (op_call0 (vs := [(.agg ((asc8 32).map b8).toArray), (.slice none 0 0)]) (cap := []) (fun w hw => ptag_f (asc8 32) [] none 0 0 w (hok_cons ((src_nil 1) w hw) (hok_cons (all_nil w) (hok_nil w))) sd sd sd (by first | assumption | omega | (simp only [c6_cons, c6_nil, List.append_nil, List.length_append]; omega) | (simp [c6_cons, c6_nil]; done) | (simp [c6_cons, c6_nil]; omega))) (enters_of Try.func18 (by kernel_rfl) rfl) rfl rfl rfl rfl rfl (fun t3 q4 => ?_))
    refine T_slot 13 (.agg ((ptag (asc8 32) (catp [])).map b8).toArray) (.agg ((ptag (asc8 32) []).map b8).toArray) rfl (by rfl) ?_
    refine L_op rfl (op_alloc (z := .agg ((List.replicate 16 0#8).map b8).toArray) (zs := ((List.replicate 16 0#8).map b8)) (by kernel_rfl) rfl rfl rfl rfl (fun g5 => ?_))
    refine L_op rfl (op_store (vs := ((ptag (asc8 32) []).map b8)) (cs' := ((ptag (asc8 32) []).map b8)) 0 rfl rfl (by rw [show (((ptag (asc8 32) []).map b8)).length = 16 from sd]; kernel_rfl) (all8_one _) (by have h1 : (((List.replicate 16 0#8).map b8)).length = 16 := (by kernel_rfl); have h2 : (((ptag (asc8 32) []).map b8)).length = 16 := sd; omega) (splice_all (Eq.trans (b := 16) (by kernel_rfl) (Eq.symm sd))) rfl rfl rfl rfl ?_)
    refine L_nil ?_
    refine T_re [(3, (.pointer (some ⟨g5, 0, none⟩)))] (sc rfl sn) ?_
    refine T_he [0, 1] [.blk g5 27 ((ptag (asc8 32) []).map b8), .blk g1 22 ((asc8 32).map b8)] ⟨by decide, rfl⟩ ?_
    refine T_seq ?_
    refine T_reg hF rfl ?_
    refine L_op rfl (op_pr (pr_ixa (j := 0) (m' := 0) sd (by omega) Try.underlying27 (z := 1) (by kernel_rfl) rfl rfl rfl) rfl rfl ?_)
    refine L_op rfl (op_ld (ld_blk 0 rfl (get8 sd) Try.underlying5 rfl rfl rfl) rfl rfl ?_)
    refine L_op rfl (op_pr (pr_cmp (bo := .eql) (n8_beq (ath (ptag (asc8 32) []) 0) (16#8)) rfl rfl rfl rfl) rfl rfl ?_)
    refine L_op rfl (op_pr (pr_move rfl rfl) rfl rfl ?_)
    refine T_slot 17 (.bool ((ath (ptag (asc8 32) []) 0) == 16#8)) (.bool true) rfl (congrArg _ (by rw [asc_tag (0, 16#8) (by simp)]; rfl)) ?_
    refine L_op rfl (op_pr (pr_ixa (j := 15) (m' := 15) sd (by omega) Try.underlying27 (z := 1) (by kernel_rfl) rfl rfl rfl) rfl rfl ?_)
    refine L_op rfl (op_ld (ld_blk 0 rfl (get8 sd) Try.underlying5 rfl rfl rfl) rfl rfl ?_)
    refine L_op rfl (op_pr (pr_cmp (bo := .eql) (n8_beq (ath (ptag (asc8 32) []) 15) (31#8)) rfl rfl rfl rfl) rfl rfl ?_)
    refine L_op rfl (op_pr (pr_pick_t rfl rfl rfl) rfl rfl ?_)
    refine L_op rfl (op_pr (pr_assign rfl rfl) rfl rfl ?_)
    refine L_nil ?_
    refine T_re [(0, (.bool ((ath (ptag (asc8 32) []) 15) == 31#8)))] (sc rfl sn) ?_
    refine T_he [0, 1] [.blk g5 27 ((ptag (asc8 32) []).map b8), .blk g1 22 ((asc8 32).map b8)] ⟨by decide, rfl⟩ ?_
    refine T_ret ?_
    refine T_slot 0 (.bool ((ath (ptag (asc8 32) []) 15) == 31#8)) (.bool true) rfl (by rw [asc_tag (15, 31#8) (by simp)]; rfl) ?_
    exact T_fin () (by first | trivial | omega | (simp; done)) (res1 rfl rfl) [] ⟨by decide, rfl⟩ rfl
set_option maxHeartbeats 4000000 in
theorem polyTags_f (key : List (BitVec 8)) (Q : List Pt) (A : Option Addr) (n : Nat) (c : Nat) (w : World) (hO : HOK [.rd A 1 n c (Q.map Pt.sl), .all Q] w) (hkl : key.length = 32) (hn : Q.length = n) : Calls Try.prog 3 [(.agg (key.map b8).toArray), (.slice A n c)].toArray w (Ret (T := Unit) [] w (fun _ => True) (fun _ => (.bool true)) (fun _ => [])) := by
  have hpl := ptag_len key (catp Q)
  have hcl := clampb_len key
  have hF : Wid Fence.wide := wid_wide
  refine enter (c := _) Try.func3 rfl [] [(.agg (key.map b8).toArray), (.slice A n c)] [.rd A 1 n c (Q.map Pt.sl), .all Q] (by rw [Try.ntmps3]; rfl) (own_rds hO rfl) ?_
  rw [Try.ntmps3]
  refine T_re [(0, (.agg (key.map b8).toArray)), (1, (.slice A n c))] (sc rfl (sc rfl sn)) ?_
  refine T_he [0, 1] [.rd A 1 n c (Q.map Pt.sl), .all Q] ⟨by decide, rfl⟩ ?_
  refine T_seq ?_
  refine T_reg hF rfl ?_
  refine L_op rfl (op_box (zs := (key.map b8)) rfl rfl rfl rfl rfl (fun g1 => ?_))
  refine L_op rfl (op_pr (pr_assign rfl rfl) rfl rfl ?_)
  refine L_nil ?_
  refine T_re [(1, (.slice A n c)), (2, (.pointer (some ⟨g1, 0, none⟩)))] (sc rfl (sc rfl sn)) ?_
  refine T_he [0, 1, 2] [.blk g1 22 (key.map b8), .rd A 1 n c (Q.map Pt.sl), .all Q] ⟨by decide, rfl⟩ ?_
  refine T_seq ?_
  refine T_seq ?_
  refine T_reg hF rfl ?_
  refine L_op rfl (op_pr (pr_move rfl rfl) rfl rfl ?_)
  refine L_op rfl (op_pr (pr_len_sl Try.underlying23 rfl rfl) rfl rfl ?_)
  refine L_op rfl (op_pr (pr_cmp (bo := .gtr) (nc_lt (a := 20) (b := n)) rfl rfl rfl rfl) rfl rfl ?_)
  refine L_nil ?_
  refine T_re [(1, (.slice A n c)), (2, (.pointer (some ⟨g1, 0, none⟩))), (10, (.bool (decide (20 < n))))] (sc rfl (sc rfl (sc rfl sn))) ?_
  refine T_he [0, 1, 2] [.blk g1 22 (key.map b8), .rd A 1 n c (Q.map Pt.sl), .all Q] ⟨by decide, rfl⟩ ?_
  refine T_cond (decide (20 < n)) rfl (fun hc_2 => ?_) (fun hc_2 => ?_)
  · skip
    have hc_2 := of_decide_eq_true hc_2
    refine T_seq ?_
    refine T_reg hF rfl ?_
    refine L_op rfl (op_call0 (vs := []) (cap := []) (fun w hw => awake6_f  w (hok_nil w) ) (enters_of Try.func16 (by kernel_rfl) rfl) rfl rfl rfl rfl rfl (fun t3 q4 => ?_))
    refine L_op rfl (op_pr (pr_assign rfl rfl) rfl rfl ?_)
    refine L_nil ?_
    refine T_re [(4, (.bool true))] (sc rfl sn) ?_
    refine T_he [0, 1, 2] [.blk g1 22 (key.map b8), .rd A 1 n c (Q.map Pt.sl), .all Q] ⟨by decide, rfl⟩ ?_
    refine T_ret ?_
    exact T_fin () (by first | trivial | omega | (simp; done)) (res1 rfl rfl) [] ⟨by decide, rfl⟩ rfl
  · skip
    have hc_2 := of_decide_eq_false hc_2
    refine T_skip ?_
    refine T_seq ?_
    refine T_reg hF rfl ?_
    refine L_op rfl (op_pr (pr_assign rfl rfl) rfl rfl ?_)
    refine L_nil ?_
    refine T_re [(1, (.slice A n c)), (2, (.pointer (some ⟨g1, 0, none⟩))), (5, (.slice none 0 0))] (sc rfl (sc rfl (sc rfl sn))) ?_
    refine T_he [0, 1, 2] [.blk g1 22 (key.map b8), .rd A 1 n c (Q.map Pt.sl), .all Q] ⟨by decide, rfl⟩ ?_
    refine T_seq ?_
    refine T_seq ?_
    refine T_reg hF rfl ?_
    refine L_op rfl (op_pr (pr_assign rfl rfl) rfl rfl ?_)
    refine L_nil ?_
    refine T_re [(1, (.slice A n c)), (2, (.pointer (some ⟨g1, 0, none⟩))), (5, (.slice none 0 0)), (6, (.int .i64 ((0 : Nat) : Int)))] (sc rfl (sc rfl (sc rfl (sc rfl sn)))) ?_
    refine T_he [0, 1, 2] [.blk g1 22 (key.map b8), .rd A 1 n c (Q.map Pt.sl), .all Q] ⟨by decide, rfl⟩ ?_
    refine T_block ?_
    refine T_slot 5 (.slice none 0 0) (.slice none ((catp (Q.take 0)).length) 0) rfl (rfl) ?_
    refine T_nilrow 5 1 ?_
    refine T_as 0 (.row (.slice none 0 0) 5 1 0 []) (.row (.slice none ((catp (Q.take 0)).length) 0) 5 1 ((catp (Q.take 0)).length) ((catp (Q.take 0)).map b8)) rfl (rfl) ?_
    refine T_loop (T := Nat × Option Addr × Nat) (fun ⟨k, A1, c1⟩ => k ≤ n ∧ (catp (Q.take k)).length ≤ 1000 * k) (fun ⟨k, A1, c1⟩ => [(1, (.slice A n c)), (2, (.pointer (some ⟨g1, 0, none⟩))), (5, (.slice A1 ((catp (Q.take k)).length) c1)), (6, (.int .i64 ((k : Nat) : Int)))]) (fun ⟨k, A1, c1⟩ => [.row (.slice A1 ((catp (Q.take k)).length) c1) 5 1 ((catp (Q.take k)).length) ((catp (Q.take k)).map b8), .blk g1 22 (key.map b8), .rd A 1 n c (Q.map Pt.sl), .all Q]) (fun ⟨k, A1, c1⟩ => n - k) (0, none, 0) (by simp [catp]) (sc rfl (sc rfl (sc rfl (sc rfl sn)))) [0, 1, 2, 3] ⟨by decide, rfl⟩ ?_
    rintro ⟨k, A1, c1⟩ hp
    have hp : k ≤ n ∧ (catp (Q.take k)).length ≤ 1000 * k := hp
    have hle := catp_le Q k
    have hct : k < n → (catp (Q.take (k + 1))).length = (catp (Q.take k)).length + (pat Q k).xs.length := fun h => by rw [catp_take (by omega), List.length_append]
    refine T_re [(1, (.slice A n c)), (2, (.pointer (some ⟨g1, 0, none⟩))), (5, (.slice A1 ((catp (Q.take k)).length) c1)), (6, (.int .i64 ((k : Nat) : Int)))] (sc rfl (sc rfl (sc rfl (sc rfl sn)))) ?_
    refine T_he [0, 1, 2, 3] [.row (.slice A1 ((catp (Q.take k)).length) c1) 5 1 ((catp (Q.take k)).length) ((catp (Q.take k)).map b8), .blk g1 22 (key.map b8), .rd A 1 n c (Q.map Pt.sl), .all Q] ⟨by decide, rfl⟩ ?_
    refine T_seq ?_
    refine T_seq ?_
    refine T_reg hF rfl ?_
    refine L_op rfl (op_pr (pr_move rfl rfl) rfl rfl ?_)
    refine L_op rfl (op_pr (pr_move rfl rfl) rfl rfl ?_)
    refine L_op rfl (op_pr (pr_len_sl Try.underlying23 rfl rfl) rfl rfl ?_)
    refine L_op rfl (op_pr (pr_cmp (bo := .lss) (nc_lt (a := k) (b := n)) rfl rfl rfl rfl) rfl rfl ?_)
    refine L_nil ?_
    refine T_re [(1, (.slice A n c)), (2, (.pointer (some ⟨g1, 0, none⟩))), (5, (.slice A1 ((catp (Q.take k)).length) c1)), (6, (.int .i64 ((k : Nat) : Int))), (15, (.bool (decide (k < n))))] (sc rfl (sc rfl (sc rfl (sc rfl (sc rfl sn))))) ?_
    refine T_he [0, 1, 2, 3] [.row (.slice A1 ((catp (Q.take k)).length) c1) 5 1 ((catp (Q.take k)).length) ((catp (Q.take k)).map b8), .blk g1 22 (key.map b8), .rd A 1 n c (Q.map Pt.sl), .all Q] ⟨by decide, rfl⟩ ?_
    refine T_cond (decide (k < n)) rfl (fun hc_5 => ?_) (fun hc_5 => ?_)
    · skip
      have hc_5 := of_decide_eq_true hc_5
      refine T_skip ?_
      refine T_seq ?_
      refine T_block ?_
      refine T_seq ?_
      refine T_seq ?_
      refine T_reg hF rfl ?_
      refine L_op rfl (op_pr (pr_move rfl rfl) rfl rfl ?_)
      refine L_op rfl (op_pr (pr_move rfl rfl) rfl rfl ?_)
      refine L_op rfl (op_pr (pr_ixs1 (j := k) (src_none (src_rd 2 rfl)) sd Try.underlying23 (by kernel_rfl) rfl rfl rfl) rfl rfl ?_)
      refine L_op rfl (op_ld (ld_src (m := k) (src_rd 2 rfl) (pat_get sd) Try.underlying25 rfl rfl rfl) rfl rfl ?_)
      refine T_ofall 3 rfl (pat_mem (L := Q) (j := k) sd) (fun hl_6 hm_7 => ?_)
      refine L_op rfl (op_pr (pr_len_sl Try.underlying25 rfl rfl) rfl rfl ?_)
      refine L_op rfl (op_pr (pr_cmp (bo := .gtr) (nc_lt (a := 1000) (b := (pat Q k).n)) rfl rfl rfl rfl) rfl rfl ?_)
      refine L_nil ?_
      refine T_re [(1, (.slice A n c)), (2, (.pointer (some ⟨g1, 0, none⟩))), (5, (.slice A1 ((catp (Q.take k)).length) c1)), (6, (.int .i64 ((k : Nat) : Int))), (23, (.bool (decide (1000 < (pat Q k).n))))] (sc rfl (sc rfl (sc rfl (sc rfl (sc rfl sn))))) ?_
      refine T_he [0, 1, 2, 3, 4] [.rd ((pat Q k).A) 1 ((pat Q k).n) ((pat Q k).c) (((pat Q k).xs).map b8), .row (.slice A1 ((catp (Q.take k)).length) c1) 5 1 ((catp (Q.take k)).length) ((catp (Q.take k)).map b8), .blk g1 22 (key.map b8), .rd A 1 n c (Q.map Pt.sl), .all Q] ⟨by decide, rfl⟩ ?_
      refine T_cond (decide (1000 < (pat Q k).n)) rfl (fun hc_8 => ?_) (fun hc_8 => ?_)
      · skip
        have hc_8 := of_decide_eq_true hc_8
        refine T_seq ?_
        refine T_reg hF rfl ?_
        refine L_op rfl (op_call0 (vs := []) (cap := []) (fun w hw => awake6_f  w (hok_nil w) ) (enters_of Try.func16 (by kernel_rfl) rfl) rfl rfl rfl rfl rfl (fun t9 q10 => ?_))
        refine L_op rfl (op_pr (pr_assign rfl rfl) rfl rfl ?_)
        refine L_nil ?_
        refine T_re [(4, (.bool true))] (sc rfl sn) ?_
        refine T_he [0, 1, 2, 3, 4] [.rd ((pat Q k).A) 1 ((pat Q k).n) ((pat Q k).c) (((pat Q k).xs).map b8), .row (.slice A1 ((catp (Q.take k)).length) c1) 5 1 ((catp (Q.take k)).length) ((catp (Q.take k)).map b8), .blk g1 22 (key.map b8), .rd A 1 n c (Q.map Pt.sl), .all Q] ⟨by decide, rfl⟩ ?_
        refine T_ret ?_
        exact T_fin () (by first | trivial | omega | (simp; done)) (res1 rfl rfl) [] ⟨by decide, rfl⟩ rfl
      · skip
        have hc_8 := of_decide_eq_false hc_8
        refine T_skip ?_
        refine T_reg hF rfl ?_
        refine L_op rfl (op_pr (pr_move rfl rfl) rfl rfl ?_)
        refine L_op rfl (op_pr (pr_move rfl rfl) rfl rfl ?_)
        refine L_op rfl (op_pr (pr_move rfl rfl) rfl rfl ?_)
        refine L_op rfl (op_pr (pr_ixs1 (j := k) (src_none (src_rd 3 rfl)) sd Try.underlying23 (by kernel_rfl) rfl rfl rfl) rfl rfl ?_)
        refine L_op rfl (op_ld (ld_src (m := k) (src_rd 3 rfl) (pat_get sd) Try.underlying25 rfl rfl rfl) rfl rfl ?_)
        refine L_op rfl (op_append (z := (b8 (0#8))) (size := 1) (bytes := 1) 1 rfl Try.underlying25 (by kernel_rfl) (by kernel_rfl) (by decide) (src_rd 0 rfl) (all8_one _) sd sd rfl rfl rfl rfl rfl (fun A11 C12 => ?_))
        refine T_as 0 (.row (.slice A11 ((catp (Q.take k)).length + (pat Q k).n) C12) 5 1 ((catp (Q.take k)).length + (pat Q k).n) (((catp (Q.take k)).map b8) ++ (((pat Q k).xs).map b8))) (.row (.slice A11 ((catp (Q.take k)).length + ((pat Q k).n)) C12) 5 1 ((catp (Q.take k)).length + ((pat Q k).n)) (((catp (Q.take k)) ++ (pat Q k).xs).map b8)) rfl (by first | rfl | (congr 1; simp; done) | (simp only [List.map_append]; rfl) | (rw [List.map_append]; rfl)) ?_
        refine T_slot 30 (.slice A11 ((catp (Q.take k)).length + (pat Q k).n) C12) (.slice A11 ((catp (Q.take k)).length + ((pat Q k).n)) C12) rfl rfl ?_
        refine L_op rfl (op_pr (pr_assign rfl rfl) rfl rfl ?_)
        refine L_nil ?_
        refine T_re [(1, (.slice A n c)), (2, (.pointer (some ⟨g1, 0, none⟩))), (5, (.slice A11 ((catp (Q.take k)).length + ((pat Q k).n)) C12)), (6, (.int .i64 ((k : Nat) : Int)))] (sc rfl (sc rfl (sc rfl (sc rfl sn)))) ?_
        refine T_he [0, 1, 2, 3, 4] [.row (.slice A11 ((catp (Q.take k)).length + ((pat Q k).n)) C12) 5 1 ((catp (Q.take k)).length + ((pat Q k).n)) (((catp (Q.take k)) ++ (pat Q k).xs).map b8), .rd ((pat Q k).A) 1 ((pat Q k).n) ((pat Q k).c) (((pat Q k).xs).map b8), .blk g1 22 (key.map b8), .rd A 1 n c (Q.map Pt.sl), .all Q] ⟨by decide, rfl⟩ ?_
        refine T_reg hF rfl ?_
        refine L_op rfl (op_pr (pr_move rfl rfl) rfl rfl ?_)
        refine L_op rfl (op_pr (pr_add (na_i64 (a := k) (b := 1) sd) rfl rfl rfl) rfl rfl ?_)
        refine L_op rfl (op_pr (pr_assign rfl rfl) rfl rfl ?_)
        refine L_nil ?_
        refine T_re [(1, (.slice A n c)), (2, (.pointer (some ⟨g1, 0, none⟩))), (5, (.slice A11 ((catp (Q.take k)).length + ((pat Q k).n)) C12)), (6, (.int .i64 ((k + 1 : Nat) : Int)))] (sc rfl (sc rfl (sc rfl (sc rfl sn)))) ?_
        refine T_he [0, 1, 2, 3, 4] [.row (.slice A11 ((catp (Q.take k)).length + ((pat Q k).n)) C12) 5 1 ((catp (Q.take k)).length + ((pat Q k).n)) (((catp (Q.take k)) ++ (pat Q k).xs).map b8), .rd ((pat Q k).A) 1 ((pat Q k).n) ((pat Q k).c) (((pat Q k).xs).map b8), .blk g1 22 (key.map b8), .rd A 1 n c (Q.map Pt.sl), .all Q] ⟨by decide, rfl⟩ ?_
        refine T_slot 5 (.slice A11 ((catp (Q.take k)).length + ((pat Q k).n)) C12) (.slice A11 ((catp (Q.take (k + 1))).length) C12) rfl (by rw [hct (by assumption)]; congr 1; omega) ?_
        refine T_as 0 (.row (.slice A11 ((catp (Q.take k)).length + ((pat Q k).n)) C12) 5 1 ((catp (Q.take k)).length + ((pat Q k).n)) (((catp (Q.take k)) ++ (pat Q k).xs).map b8)) (.row (.slice A11 ((catp (Q.take (k + 1))).length) C12) 5 1 ((catp (Q.take (k + 1))).length) ((catp (Q.take (k + 1))).map b8)) rfl (by rw [catp_take (by omega), List.length_append]; congr 1 <;> simp <;> omega) ?_
        exact T_again (k + 1, A11, C12) (by simp only [hct (by assumption)]; omega) (by first | trivial | ((try dsimp only); first | omega | (refine ⟨?_, ?_⟩ <;> omega) | (refine ⟨?_, ?_, ?_⟩ <;> omega) | (simp; done) | (simp; omega))) (sc rfl (sc rfl (sc rfl (sc rfl sn)))) [0, 2, 3, 4] ⟨by decide, rfl⟩
    · skip
      have hc_5 := of_decide_eq_false hc_5
      refine T_exit rfl ?_
      obtain rfl : n = k := by omega
      have hfull : Q.take n = Q := List.take_of_length_le (by omega)
      have hcl : (catp Q).length ≤ 1000 * n := by have h9 := hp.2; rw [hfull] at h9; exact h9
      refine T_slot 5 (.slice A1 ((catp (Q.take n)).length) c1) (.slice A1 ((catp Q).length) c1) rfl (by rw [hfull]) ?_
      refine T_as 0 (.row (.slice A1 ((catp (Q.take n)).length) c1) 5 1 ((catp (Q.take n)).length) ((catp (Q.take n)).map b8)) (.row (.slice A1 ((catp Q).length) c1) 5 1 ((catp Q).length) ((catp Q).map b8)) rfl (by rw [hfull]) ?_
      refine T_seq ?_
      refine T_reg hF rfl ?_
      refine L_op rfl (op_pr (pr_move rfl rfl) rfl rfl ?_)
      refine L_op rfl (op_call0 (vs := [(.slice A1 ((catp Q).length) c1), (b8 (71#8))]) (cap := []) (fun w hw => own_f (catp Q) (71#8) A1 ((catp Q).length) c1 w (hok_cons ((src_row 0 rfl) w hw) (hok_nil w)) sd sd) (enters_of Try.func17 (by kernel_rfl) rfl) rfl rfl rfl rfl rfl (fun t13 q14 => ?_))
      obtain ⟨B15, d16⟩ := t13
      have q14 : ((catp Q).length) + 3 ≤ d16 := q14
      refine L_op rfl (op_pr (pr_assign rfl rfl) rfl rfl ?_)
      refine L_nil ?_
      refine T_re [(1, (.slice A n c)), (2, (.pointer (some ⟨g1, 0, none⟩))), (5, (.slice A1 ((catp Q).length) c1)), (7, (.slice B15 ((catp Q).length) d16))] (sc rfl (sc rfl (sc rfl (sc rfl sn)))) ?_
      refine T_he [0, 1, 2, 3, 4, 5] [.old B15 1 (((catp Q).length) + 3) d16 (((catp Q) ++ [(71#8), (71#8), (71#8)]).map b8), .old B15 1 ((catp Q).length) d16 ((catp Q).map b8), .row (.slice A1 ((catp Q).length) c1) 5 1 ((catp Q).length) ((catp Q).map b8), .blk g1 22 (key.map b8), .rd A 1 n c (Q.map Pt.sl), .all Q] ⟨by decide, rfl⟩ ?_
      refine T_seq ?_
      refine T_regD [.old B15 1 (((catp Q).length) + 3) d16 (((catp Q) ++ [(71#8), (71#8), (71#8)]).map b8), .old B15 1 ((catp Q).length) d16 ((catp Q).map b8), .row (.slice A1 ((catp Q).length) c1) 5 1 ((catp Q).length) ((catp Q).map b8), .blk g1 22 (key.map b8), .rd A 1 n c (Q.map Pt.sl), .all Q] 33 33 #[false, false, false, false, false, false, false, false, false, false, false, false, false, false, false, false, false, false, false, false, false, false, false, false, false, false, false, false, false, false, false, false, false] hF (by kernel_rfl) (by kernel_rfl) ?_
      refine D_one 0 _ rfl (by kernel_rfl) rfl (op_call0 (vs := []) (cap := []) (fun w hw => awake6_f  w (hok_nil w) ) (enters_of Try.func16 (by kernel_rfl) rfl) rfl rfl rfl rfl rfl (fun t17 q18 => ?_))
      refine D_on [0, 1, 2, 3, 4, 5] rfl ?_
      refine D_pure (i := 1) [0, 1, 2, 3, 4, 5] rfl (by kernel_rfl) rfl (pr_move rfl rfl) (.inr rfl) rfl rfl ?_
      refine D_pure (i := 3) [0, 1, 2, 3, 4, 5] rfl (by kernel_rfl) rfl (pr_move rfl rfl) (.inr rfl) rfl rfl ?_
      refine D_pure (i := 6) [0, 1, 2, 3, 4, 5] rfl (by kernel_rfl) rfl (pr_move rfl rfl) (.inr rfl) rfl rfl ?_
      refine D_take (i := 2) [0, 1, 2, 3, 4, 5] rfl (by kernel_rfl) rfl (ld_agg (ds := (key.map b8)) 3 rfl agg_all Try.underlying22 rfl (by rw [show ((key.map b8)).length = 32 from sd]; kernel_rfl) rfl rfl) rfl rfl rfl ?_
      refine D_take (i := 5) [0, 1, 2, 3, 4, 5] rfl (by kernel_rfl) rfl (ld_agg (ds := (key.map b8)) 3 rfl agg_all Try.underlying22 rfl (by rw [show ((key.map b8)).length = 32 from sd]; kernel_rfl) rfl rfl) rfl rfl rfl ?_
      refine D_one 4 _ rfl (by kernel_rfl) rfl (op_call0 (vs := [(.agg (key.map b8).toArray), (.slice A n c)]) (cap := []) (fun w hw => ptag_f key Q A n c w (hok_cons ((src_rd 4 rfl) w hw) (hok_cons (hw _ (List.mem_of_getElem? (i := 5) rfl)) (hok_nil w))) sd sd sd (by first | assumption | omega | (simp only [c6_cons, c6_nil, List.append_nil, List.length_append]; omega) | (simp [c6_cons, c6_nil]; done) | (simp [c6_cons, c6_nil]; omega))) (enters_of Try.func18 (by kernel_rfl) rfl) rfl rfl rfl rfl rfl (fun t19 q20 => ?_))
      refine D_on [0, 1, 2, 3, 4, 5] rfl ?_
      refine D_one 7 _ rfl (by kernel_rfl) rfl (op_call0 (vs := [(.agg (key.map b8).toArray), (.slice A1 ((catp Q).length) c1)]) (cap := []) (fun w hw => rtag_f key (catp Q) A1 ((catp Q).length) c1 w (hok_cons ((src_row 2 rfl) w hw) (hok_nil w)) sd (by first | assumption | omega | (simp; done) | (simp; omega)) sd) (enters_of Try.func19 (by kernel_rfl) rfl) rfl rfl rfl rfl rfl (fun t21 q22 => ?_))
      refine D_on [0, 1, 2, 3, 4, 5] rfl ?_
      refine D_pure (i := 8) [0, 1, 2, 3, 4, 5] rfl (by kernel_rfl) rfl (pr_eqagg (bo := .eql) (c := ((ptag key (catp Q)) == (ptag key (catp Q)))) (r := ((ptag key (catp Q)) == (ptag key (catp Q)))) (eqb8 (xs := (ptag key (catp Q))) (ys := (ptag key (catp Q))) Try.underlying27 Try.underlying5 (by kernel_rfl) sd sd) (by kernel_rfl) rfl rfl rfl rfl rfl) (.inr rfl) rfl rfl ?_
      refine D_pure (i := 9) [0, 1, 2, 3, 4, 5] rfl (by kernel_rfl) rfl (pr_pick_t rfl rfl rfl) (.inr rfl) rfl rfl ?_
      refine D_pure (i := 10) [0, 1, 2, 3, 4, 5] rfl (by kernel_rfl) rfl (pr_move rfl rfl) (.inr rfl) rfl rfl ?_
      refine T_slot 41 (.bool ((ptag key (catp Q)) == (ptag key (catp Q)))) (.bool true) rfl (congrArg _ (by simp)) ?_
      refine T_slot 42 (.bool ((ptag key (catp Q)) == (ptag key (catp Q)))) (.bool true) rfl (congrArg _ (by simp)) ?_
      refine T_slot 43 (.bool ((ptag key (catp Q)) == (ptag key (catp Q)))) (.bool true) rfl (congrArg _ (by simp)) ?_
      refine D_pure (i := 12) [0, 1, 2, 3, 4, 5] rfl (by kernel_rfl) rfl (pr_move rfl rfl) (.inr rfl) rfl rfl ?_
      refine D_pure (i := 16) [0, 1, 2, 3, 4, 5] rfl (by kernel_rfl) rfl (pr_move rfl rfl) (.inr rfl) rfl rfl ?_
      refine D_take (i := 11) [0, 1, 2, 3, 4, 5] rfl (by kernel_rfl) rfl (ld_agg (ds := (key.map b8)) 3 rfl agg_all Try.underlying22 rfl (by rw [show ((key.map b8)).length = 32 from sd]; kernel_rfl) rfl rfl) rfl rfl rfl ?_
      refine D_take (i := 15) [0, 1, 2, 3, 4, 5] rfl (by kernel_rfl) rfl (ld_agg (ds := (key.map b8)) 3 rfl agg_all Try.underlying22 rfl (by rw [show ((key.map b8)).length = 32 from sd]; kernel_rfl) rfl rfl) rfl rfl rfl ?_
      refine D_one 13 _ rfl (by kernel_rfl) rfl (op_bslice (e := 25) (zs := [(.slice B15 ((catp Q).length) d16)]) (qs := [(0, (.slice B15 ((catp Q).length) d16))]) (fun _ => by kernel_rfl) rfl rfl rfl rfl (fun g23 => ?_))
      refine D_on [1, 2, 3, 4, 5, 6] rfl ?_
      refine D_one 14 _ rfl (by kernel_rfl) rfl (op_call0 (vs := [(.agg (key.map b8).toArray), (.slice (some ⟨g23, 0, none⟩) 1 1)]) (cap := []) (fun w hw => ptag_f key [(Pt.mk B15 ((catp Q).length) d16 (catp Q))] (some ⟨g23, 0, none⟩) 1 1 w (hok_cons ((src_full (z := 1) 0 rfl rfl sd sd) w hw) (hok_cons (all_cons ((src_old 2 rfl) w hw) (all_nil w)) (hok_nil w))) sd sd sd (by first | assumption | omega | (simp only [c6_cons, c6_nil, List.append_nil, List.length_append]; omega) | (simp [c6_cons, c6_nil]; done) | (simp [c6_cons, c6_nil]; omega))) (enters_of Try.func18 (by kernel_rfl) rfl) rfl rfl rfl rfl rfl (fun t24 q25 => ?_))
      refine T_slot 47 (.agg ((ptag key (catp [(Pt.mk B15 ((catp Q).length) d16 (catp Q))])).map b8).toArray) (.agg ((ptag key (catp Q)).map b8).toArray) rfl (by rw [c6_one]) ?_
      refine D_on [1, 2, 3, 4, 5, 6] rfl ?_
      refine D_one 17 _ rfl (by kernel_rfl) rfl (op_call0 (vs := [(.agg (key.map b8).toArray), (.slice A1 ((catp Q).length) c1)]) (cap := []) (fun w hw => rtag_f key (catp Q) A1 ((catp Q).length) c1 w (hok_cons ((src_row 3 rfl) w hw) (hok_nil w)) sd (by first | assumption | omega | (simp; done) | (simp; omega)) sd) (enters_of Try.func19 (by kernel_rfl) rfl) rfl rfl rfl rfl rfl (fun t26 q27 => ?_))
      refine D_on [1, 2, 3, 4, 5, 6] rfl ?_
      refine D_pure (i := 18) [1, 2, 3, 4, 5, 6] rfl (by kernel_rfl) rfl (pr_eqagg (bo := .eql) (c := ((ptag key (catp Q)) == (ptag key (catp Q)))) (r := ((ptag key (catp Q)) == (ptag key (catp Q)))) (eqb8 (xs := (ptag key (catp Q))) (ys := (ptag key (catp Q))) Try.underlying27 Try.underlying5 (by kernel_rfl) sd sd) (by kernel_rfl) rfl rfl rfl rfl rfl) (.inr rfl) rfl rfl ?_
      refine D_pure (i := 19) [1, 2, 3, 4, 5, 6] rfl (by kernel_rfl) rfl (pr_pick_t rfl rfl rfl) (.inr rfl) rfl rfl ?_
      refine D_pure (i := 20) [1, 2, 3, 4, 5, 6] rfl (by kernel_rfl) rfl (pr_move rfl rfl) (.inr rfl) rfl rfl ?_
      refine T_slot 51 (.bool ((ptag key (catp Q)) == (ptag key (catp Q)))) (.bool true) rfl (congrArg _ (by simp)) ?_
      refine T_slot 52 (.bool ((ptag key (catp Q)) == (ptag key (catp Q)))) (.bool true) rfl (congrArg _ (by simp)) ?_
      refine T_slot 53 (.bool ((ptag key (catp Q)) == (ptag key (catp Q)))) (.bool true) rfl (congrArg _ (by simp)) ?_
      refine D_take (i := 21) [1, 2, 3, 4, 5, 6] rfl (by kernel_rfl) rfl (ld_agg (ds := (key.map b8)) 3 rfl agg_all Try.underlying22 rfl (by rw [show ((key.map b8)).length = 32 from sd]; kernel_rfl) rfl rfl) rfl rfl rfl ?_
      refine D_take (i := 23) [1, 2, 3, 4, 5, 6] rfl (by kernel_rfl) rfl (ld_agg (ds := (key.map b8)) 3 rfl agg_all Try.underlying22 rfl (by rw [show ((key.map b8)).length = 32 from sd]; kernel_rfl) rfl rfl) rfl rfl rfl ?_
      refine D_one 22 _ rfl (by kernel_rfl) rfl (op_call0 (vs := [(.agg (key.map b8).toArray)]) (cap := []) (fun w hw => clamp_f key w (hok_nil w) sd) (enters_of Try.func20 (by kernel_rfl) rfl) rfl rfl rfl rfl rfl (fun t28 q29 => ?_))
      refine D_on [1, 2, 3, 4, 5, 6] rfl ?_
      refine D_one 24 _ rfl (by kernel_rfl) rfl (op_call0 (vs := [(.agg (key.map b8).toArray)]) (cap := []) (fun w hw => rclamp_f key w (hok_nil w) sd) (enters_of Try.func21 (by kernel_rfl) rfl) rfl rfl rfl rfl rfl (fun t30 q31 => ?_))
      refine D_on [1, 2, 3, 4, 5, 6] rfl ?_
      refine D_pure (i := 25) [1, 2, 3, 4, 5, 6] rfl (by kernel_rfl) rfl (pr_eqagg (bo := .eql) (c := ((clampb key) == (clampb key))) (r := ((clampb key) == (clampb key))) (eqb8 (xs := (clampb key)) (ys := (clampb key)) Try.underlying27 Try.underlying5 (by kernel_rfl) sd sd) (by kernel_rfl) rfl rfl rfl rfl rfl) (.inr rfl) rfl rfl ?_
      refine D_pure (i := 26) [1, 2, 3, 4, 5, 6] rfl (by kernel_rfl) rfl (pr_pick_t rfl rfl rfl) (.inr rfl) rfl rfl ?_
      refine D_pure (i := 27) [1, 2, 3, 4, 5, 6] rfl (by kernel_rfl) rfl (pr_move rfl rfl) (.inr rfl) rfl rfl ?_
      refine T_slot 58 (.bool ((clampb key) == (clampb key))) (.bool true) rfl (congrArg _ (by simp)) ?_
      refine T_slot 59 (.bool ((clampb key) == (clampb key))) (.bool true) rfl (congrArg _ (by simp)) ?_
      refine T_slot 60 (.bool ((clampb key) == (clampb key))) (.bool true) rfl (congrArg _ (by simp)) ?_
      refine D_pure (i := 28) [1, 2, 3, 4, 5, 6] rfl (by kernel_rfl) rfl (pr_move rfl rfl) (.inr rfl) rfl rfl ?_
      refine D_pure (i := 29) [1, 2, 3, 4, 5, 6] rfl (by kernel_rfl) rfl (pr_move rfl rfl) (.inr rfl) rfl rfl ?_
      refine D_one 30 _ rfl (by kernel_rfl) rfl (op_call0 (vs := [(.slice B15 ((catp Q).length) d16), (.slice A1 ((catp Q).length) c1), (b8 (71#8))]) (cap := []) (fun w hw => kept_f (catp Q) (71#8) B15 ((catp Q).length) d16 A1 c1 w (hok_cons ((src_old 2 rfl) w hw) (hok_cons ((src_old 1 rfl) w hw) (hok_cons ((src_row 3 rfl) w hw) (hok_nil w)))) sd sd sd) (enters_of Try.func22 (by kernel_rfl) rfl) rfl rfl rfl rfl rfl (fun t32 q33 => ?_))
      refine D_on [1, 2, 3, 4, 5, 6] rfl ?_
      refine D_pure (i := 31) [1, 2, 3, 4, 5, 6] rfl (by kernel_rfl) rfl (pr_pick_t rfl rfl rfl) (.inr rfl) rfl rfl ?_
      refine D_pure (i := 32) [1, 2, 3, 4, 5, 6] rfl (by kernel_rfl) rfl (pr_assign rfl rfl) (.inr rfl) rfl rfl ?_
      refine D_done (by kernel_rfl) ?_
      refine T_re [(4, (.bool true))] (sc rfl sn) ?_
      refine T_he [0, 1, 2, 3, 4, 5, 6] [.blk g23 25 [(.slice B15 ((catp Q).length) d16)], .old B15 1 (((catp Q).length) + 3) d16 (((catp Q) ++ [(71#8), (71#8), (71#8)]).map b8), .old B15 1 ((catp Q).length) d16 ((catp Q).map b8), .row (.slice A1 ((catp Q).length) c1) 5 1 ((catp Q).length) ((catp Q).map b8), .blk g1 22 (key.map b8), .rd A 1 n c (Q.map Pt.sl), .all Q] ⟨by decide, rfl⟩ ?_
      refine T_ret ?_
      exact T_fin () (by first | trivial | omega | (simp; done)) (res1 rfl rfl) [] ⟨by decide, rfl⟩ rfl
end Go.Proofs.Ytemjinkdfjoicaa
