/- Walks by facts, part 7: what the functions that the law reaches answer. No conditions but lengths. -/
import Derived.Test.YtlplpmkdebemnaaGreatYBlockBack6
import Derived.Test.YtlplpmkdebemnaaGreatProg
set_option linter.unusedVariables false
set_option linter.unusedSimpArgs false
set_option linter.unnecessarySimpa false
namespace Go.Proofs.YtlplpmkdebemnaaGreat
set_option maxRecDepth 100000
open Go.RowKit Bv Fw
def rcl (key : List (BitVec 8)) (i : Nat) : List (BitVec 8) := prez (clampb key) 16 i
theorem rcl_len (key : List (BitVec 8)) (i : Nat) (h : i ≤ 16) : (rcl key i).length = 16 := prez_len _ _ _ (clampb_len key) h
theorem rcl_zero (key : List (BitVec 8)) : List.replicate 16 0#8 = rcl key 0 := prez_zero _ _
theorem rcl_all (key : List (BitVec 8)) : rcl key 16 = clampb key := prez_all _ _ (clampb_len key)
theorem rcl_set (key : List (BitVec 8)) (i : Nat) (h : i < 16) (v : BitVec 8) (hv : v = ath (clampb key) i) : (rcl key i).set i v = rcl key (i + 1) := prez_set _ _ _ (clampb_len key) h v hv
theorem rcl_a (key : List (BitVec 8)) (i : Nat) (h : i < 16) (h1 : ¬ i % 4 = 3) (h2 : ¬ (i = 4 ∨ i = 8 ∨ i = 12)) : (rcl key i).set i (ath key i) = rcl key (i + 1) :=
  rcl_set key i h _ (by rw [clampb_at _ _ h, if_neg h1, if_neg h2])
theorem rcl_at (key : List (BitVec 8)) (i : Nat) (h : i < 16) (v : BitVec 8) : ath ((rcl key i).set i v) i = v := by
  rw [ath_set _ _ _ _ (by rw [rcl_len key i oM]; exact h), if_pos rfl]
theorem rcl_b (key : List (BitVec 8)) (i : Nat) (h : i < 16) (h1 : i % 4 = 3) : ((rcl key i).set i (ath key i)).set i (ath ((rcl key i).set i (ath key i)) i &&& 15#8) = rcl key (i + 1) := by
  rw [rcl_at key i h, List.set_set]
  exact rcl_set key i h _ (by rw [clampb_at _ _ h, if_pos h1])
theorem rcl_c (key : List (BitVec 8)) (i : Nat) (h : i < 16) (h1 : ¬ i % 4 = 3) (h2 : i = 4 ∨ i = 8 ∨ i = 12) : ((rcl key i).set i (ath key i)).set i (ath ((rcl key i).set i (ath key i)) i &&& 252#8) = rcl key (i + 1) := by
  rw [rcl_at key i h, List.set_set]
  exact rcl_set key i h _ (by rw [clampb_at _ _ h, if_neg h1, if_pos h2])
attribute [irreducible] rcl
set_option maxHeartbeats 4000000 in
theorem rclamp_f (key : List (BitVec 8)) (w : World) (hO : HOK [] w) (hkl : key.length = 32) : Calls Tryz.prog 85 [(.agg (key.map b8).toArray)].toArray w (Ret (T := Unit) [] w (fun _ => True) (fun _ => (.agg ((clampb key).map b8).toArray)) (fun _ => [])) := by
 have hcl := clampb_len key
 refine enter (c := _) Tryz.func85 rfl [] _ [] (by rw [Tryz.ntmps85]; rfl) (own_rds hO rfl) ?_
 rw [Tryz.ntmps85]
 refine lE [(0, (.agg (key.map b8).toArray))] ?_
 refine lH [] [] ?_
 refine lT ?_
 refine L_op rfl (op_box (zs := (key.map b8)) rfl rfl rfl rfl rfl (fun g1 => ?_))
 refine L_op rfl (op_alloc (z := .agg ((List.replicate 16 0#8).map b8).toArray) (zs := ((List.replicate 16 0#8).map b8)) kr rfl rfl rfl rfl (fun g2 => ?_))
 refine lN ?_
 refine L_op rfl (op_alloc (z := .agg ((List.replicate 16 0#8).map b8).toArray) (zs := ((List.replicate 16 0#8).map b8)) kr rfl rfl rfl rfl (fun g3 => ?_))
 refine L_nil ?_
 refine T_seq ?_
 refine lT ?_
 refine lS ?_
 refine L_nil ?_
 refine T_block ?_
 refine T_as 0 _ (.blk g3 62 ((rcl key 0).map b8)) rfl (by rw [← rcl_zero]) ?_
 refine T_loop (T := Nat) (fun i => i ≤ 16) (fun i => [(1, (.pointer (some ⟨g1, 0, none⟩))), (2, (.pointer (some ⟨g2, 0, none⟩))), (3, (.pointer (some ⟨g3, 0, none⟩))), (4, (.int .i64 ((i : Nat) : Int)))]) (fun i => [.blk g3 62 ((rcl key i).map b8), .blk g2 62 ((List.replicate 16 0#8).map b8), .blk g1 22 (key.map b8)]) (fun i => 16 - i) 0 pN (sc rfl (sc rfl (sc rfl (sc rfl sn)))) [0, 1, 2] ⟨by decide, rfl⟩ ?_
 rintro i hp
 have hp : i ≤ 16 := hp
 have hrl := rcl_len key i hp
 refine lE [(1, (.pointer (some ⟨g1, 0, none⟩))), (2, (.pointer (some ⟨g2, 0, none⟩))), (3, (.pointer (some ⟨g3, 0, none⟩))), (4, (.int .i64 ((i : Nat) : Int)))] ?_
 refine lH [0, 1, 2] [.blk g3 62 ((rcl key i).map b8), .blk g2 62 ((List.replicate 16 0#8).map b8), .blk g1 22 (key.map b8)] ?_
 refine T_seq ?_
 refine lT ?_
 refine lM ?_
 refine lO (pr_cmp (bo := .lss) (nc_lt (a := i) (b := 16)) rfl rfl rfl rfl) ?_
 refine L_nil ?_
 refine T_cond (decide (i < 16)) rfl (fun hc_4 => ?_) (fun hc_4 => ?_)
 ·have hc_4 := of_decide_eq_true hc_4
  refine T_skip ?_
  refine T_seq ?_
  refine T_block ?_
  refine lT ?_
  refine lM ?_
  refine lM ?_
  refine lO (pr_ixa (j := i) (m' := i) sd oM Tryz.underlying22 (z := 1) kr rfl rfl rfl) ?_
  refine lQ (ld_blk 2 rfl (get8 sd) Tryz.underlying5 rfl rfl rfl) ?_
  refine lO (pr_ixa (j := i) (m' := i) sd oM Tryz.underlying62 (z := 1) kr rfl rfl rfl) ?_
  refine L_op rfl (op_store (vs := [(b8 (ath key i))]) (cs' := ((List.set (rcl key i) i (ath key i)).map b8)) 0 rfl rfl kr (one_one rfl) (stl sd) (splice_map (f := b8) sd) rfl rfl rfl rfl ?_)
  refine L_nil ?_
  refine T_seq ?_
  refine lT ?_
  refine lM ?_
  refine lO (pr_rem (a := i) (b := 4) sd rfl rfl rfl) ?_
  refine lO (pr_cmp (bo := .eql) (nc_eq (a := i % 4) (b := 3)) rfl rfl rfl rfl) ?_
  refine L_nil ?_
  refine T_cond (i % 4 == 3) rfl (fun hc_5 => ?_) (fun hc_5 => ?_)
  ·have hc_5 : i % 4 = 3 := by simpa using hc_5
   refine lR ?_
   refine lM ?_
   refine lM ?_
   refine lO (pr_ixa (j := i) (m' := i) sd oM Tryz.underlying62 (z := 1) kr rfl rfl rfl) ?_
   refine lQ (ld_blk 0 rfl (get8 sd) Tryz.underlying5 rfl rfl rfl) ?_
   refine lO (pr_and (ib_and8 _ (15#8)) rfl rfl rfl) ?_
   refine lO (pr_ixa (j := i) (m' := i) sd oM Tryz.underlying62 (z := 1) kr rfl rfl rfl) ?_
   refine L_op rfl (op_store (vs := [(b8 ((ath (List.set (rcl key i) i (ath key i)) i) &&& 15#8))]) (cs' := ((List.set (List.set (rcl key i) i (ath key i)) i ((ath (List.set (rcl key i) i (ath key i)) i) &&& 15#8)).map b8)) 0 rfl rfl kr (one_one rfl) (stl sd) (splice_map (f := b8) sd) rfl rfl rfl rfl ?_)
   refine lN ?_
   refine lM ?_
   refine lO (pr_cmp (bo := .eql) (nc_eq (a := i) (b := 4)) rfl rfl rfl rfl) ?_
   refine lM ?_
   rcases Bool.eq_false_or_eq_true (i == 4) with hc_6 | hc_6
   ·refine T_slot 25 (.bool (i == 4)) (.bool true) rfl (congrArg _ hc_6) ?_
    refine T_slot 24 (.bool (i == 4)) (.bool true) rfl (congrArg _ hc_6) ?_
    have hc_6 : i = 4 := by simpa using hc_6
    refine L_skip rfl rfl rfl ?_
    refine L_skip rfl rfl rfl ?_
    refine lO (pr_pick_t rfl rfl rfl) ?_
    refine lM ?_
    refine L_skip rfl rfl rfl ?_
    refine L_skip rfl rfl rfl ?_
    refine lO (pr_pick_t rfl rfl rfl) ?_
    refine L_nil ?_
    refine T_cond_t rfl ?_
    refine lR ?_
    refine lM ?_
    refine lM ?_
    refine lO (pr_ixa (j := i) (m' := i) sd oM Tryz.underlying62 (z := 1) kr rfl rfl rfl) ?_
    refine lQ (ld_blk 0 rfl (get8 sd) Tryz.underlying5 rfl rfl rfl) ?_
    refine lO (pr_and (ib_and8 _ (252#8)) rfl rfl rfl) ?_
    refine lO (pr_ixa (j := i) (m' := i) sd oM Tryz.underlying62 (z := 1) kr rfl rfl rfl) ?_
    refine L_op rfl (op_store (vs := [(b8 ((ath (List.set (List.set (rcl key i) i (ath key i)) i ((ath (List.set (rcl key i) i (ath key i)) i) &&& 15#8)) i) &&& 252#8))]) (cs' := ((List.set (List.set (List.set (rcl key i) i (ath key i)) i ((ath (List.set (rcl key i) i (ath key i)) i) &&& 15#8)) i ((ath (List.set (List.set (rcl key i) i (ath key i)) i ((ath (List.set (rcl key i) i (ath key i)) i) &&& 15#8)) i) &&& 252#8)).map b8)) 0 rfl rfl kr (one_one rfl) (stl sd) (splice_map (f := b8) sd) rfl rfl rfl rfl ?_)
    refine L_nil ?_
    refine lR ?_
    refine lM ?_
    refine lO (pr_add (na_i64 (a := i) (b := 1) sd) rfl rfl rfl) ?_
    refine lS ?_
    refine L_nil ?_
    refine T_as 0 _ (.blk g3 62 ((rcl key (i + 1)).map b8)) rfl (by exfalso; omega) ?_
    exact T_again (i + 1) pN pN (sc rfl (sc rfl (sc rfl (sc rfl sn)))) [0, 1, 2] ⟨by decide, rfl⟩
   refine T_slot 25 (.bool (i == 4)) (.bool false) rfl (congrArg _ hc_6) ?_
   refine T_slot 24 (.bool (i == 4)) (.bool false) rfl (congrArg _ hc_6) ?_
   have hc_6 : ¬ i = 4 := by simpa using hc_6
   refine lM ?_
   refine lO (pr_cmp (bo := .eql) (nc_eq (a := i) (b := 8)) rfl rfl rfl rfl) ?_
   refine lO (pr_pick_f rfl rfl rfl) ?_
   refine lM ?_
   rcases Bool.eq_false_or_eq_true (i == 8) with hc_7 | hc_7
   ·refine T_slot 29 (.bool (i == 8)) (.bool true) rfl (congrArg _ hc_7) ?_
    refine T_slot 27 (.bool (i == 8)) (.bool true) rfl (congrArg _ hc_7) ?_
    refine T_slot 28 (.bool (i == 8)) (.bool true) rfl (congrArg _ hc_7) ?_
    have hc_7 : i = 8 := by simpa using hc_7
    refine L_skip rfl rfl rfl ?_
    refine L_skip rfl rfl rfl ?_
    refine lO (pr_pick_t rfl rfl rfl) ?_
    refine L_nil ?_
    refine T_cond_t rfl ?_
    refine lR ?_
    refine lM ?_
    refine lM ?_
    refine lO (pr_ixa (j := i) (m' := i) sd oM Tryz.underlying62 (z := 1) kr rfl rfl rfl) ?_
    refine lQ (ld_blk 0 rfl (get8 sd) Tryz.underlying5 rfl rfl rfl) ?_
    refine lO (pr_and (ib_and8 _ (252#8)) rfl rfl rfl) ?_
    refine lO (pr_ixa (j := i) (m' := i) sd oM Tryz.underlying62 (z := 1) kr rfl rfl rfl) ?_
    refine L_op rfl (op_store (vs := [(b8 ((ath (List.set (List.set (rcl key i) i (ath key i)) i ((ath (List.set (rcl key i) i (ath key i)) i) &&& 15#8)) i) &&& 252#8))]) (cs' := ((List.set (List.set (List.set (rcl key i) i (ath key i)) i ((ath (List.set (rcl key i) i (ath key i)) i) &&& 15#8)) i ((ath (List.set (List.set (rcl key i) i (ath key i)) i ((ath (List.set (rcl key i) i (ath key i)) i) &&& 15#8)) i) &&& 252#8)).map b8)) 0 rfl rfl kr (one_one rfl) (stl sd) (splice_map (f := b8) sd) rfl rfl rfl rfl ?_)
    refine L_nil ?_
    refine lR ?_
    refine lM ?_
    refine lO (pr_add (na_i64 (a := i) (b := 1) sd) rfl rfl rfl) ?_
    refine lS ?_
    refine L_nil ?_
    refine T_as 0 _ (.blk g3 62 ((rcl key (i + 1)).map b8)) rfl (by exfalso; omega) ?_
    exact T_again (i + 1) pN pN (sc rfl (sc rfl (sc rfl (sc rfl sn)))) [0, 1, 2] ⟨by decide, rfl⟩
   refine T_slot 29 (.bool (i == 8)) (.bool false) rfl (congrArg _ hc_7) ?_
   refine T_slot 27 (.bool (i == 8)) (.bool false) rfl (congrArg _ hc_7) ?_
   refine T_slot 28 (.bool (i == 8)) (.bool false) rfl (congrArg _ hc_7) ?_
   have hc_7 : ¬ i = 8 := by simpa using hc_7
   refine lM ?_
   refine lO (pr_cmp (bo := .eql) (nc_eq (a := i) (b := 12)) rfl rfl rfl rfl) ?_
   refine lO (pr_pick_f rfl rfl rfl) ?_
   refine L_nil ?_
   refine T_cond (i == 12) rfl (fun hc_8 => ?_) (fun hc_8 => ?_)
   ·have hc_8 : i = 12 := by simpa using hc_8
    refine lR ?_
    refine lM ?_
    refine lM ?_
    refine lO (pr_ixa (j := i) (m' := i) sd oM Tryz.underlying62 (z := 1) kr rfl rfl rfl) ?_
    refine lQ (ld_blk 0 rfl (get8 sd) Tryz.underlying5 rfl rfl rfl) ?_
    refine lO (pr_and (ib_and8 _ (252#8)) rfl rfl rfl) ?_
    refine lO (pr_ixa (j := i) (m' := i) sd oM Tryz.underlying62 (z := 1) kr rfl rfl rfl) ?_
    refine L_op rfl (op_store (vs := [(b8 ((ath (List.set (List.set (rcl key i) i (ath key i)) i ((ath (List.set (rcl key i) i (ath key i)) i) &&& 15#8)) i) &&& 252#8))]) (cs' := ((List.set (List.set (List.set (rcl key i) i (ath key i)) i ((ath (List.set (rcl key i) i (ath key i)) i) &&& 15#8)) i ((ath (List.set (List.set (rcl key i) i (ath key i)) i ((ath (List.set (rcl key i) i (ath key i)) i) &&& 15#8)) i) &&& 252#8)).map b8)) 0 rfl rfl kr (one_one rfl) (stl sd) (splice_map (f := b8) sd) rfl rfl rfl rfl ?_)
    refine L_nil ?_
    refine lR ?_
    refine lM ?_
    refine lO (pr_add (na_i64 (a := i) (b := 1) sd) rfl rfl rfl) ?_
    refine lS ?_
    refine L_nil ?_
    refine T_as 0 _ (.blk g3 62 ((rcl key (i + 1)).map b8)) rfl (by exfalso; omega) ?_
    exact T_again (i + 1) pN pN (sc rfl (sc rfl (sc rfl (sc rfl sn)))) [0, 1, 2] ⟨by decide, rfl⟩
   have hc_8 : ¬ i = 12 := by simpa using hc_8
   refine T_skip ?_
   refine lR ?_
   refine lM ?_
   refine lO (pr_add (na_i64 (a := i) (b := 1) sd) rfl rfl rfl) ?_
   refine lS ?_
   refine L_nil ?_
   refine T_as 0 _ (.blk g3 62 ((rcl key (i + 1)).map b8)) rfl (by rw [rcl_b key i oM oM]) ?_
   exact T_again (i + 1) pN pN (sc rfl (sc rfl (sc rfl (sc rfl sn)))) [0, 1, 2] ⟨by decide, rfl⟩
  have hc_5 : ¬ i % 4 = 3 := by simpa using hc_5
  refine T_skip ?_
  refine lT ?_
  refine lM ?_
  refine lO (pr_cmp (bo := .eql) (nc_eq (a := i) (b := 4)) rfl rfl rfl rfl) ?_
  refine lM ?_
  rcases Bool.eq_false_or_eq_true (i == 4) with hc_9 | hc_9
  ·refine T_slot 25 (.bool (i == 4)) (.bool true) rfl (congrArg _ hc_9) ?_
   refine T_slot 24 (.bool (i == 4)) (.bool true) rfl (congrArg _ hc_9) ?_
   have hc_9 : i = 4 := by simpa using hc_9
   refine L_skip rfl rfl rfl ?_
   refine L_skip rfl rfl rfl ?_
   refine lO (pr_pick_t rfl rfl rfl) ?_
   refine lM ?_
   refine L_skip rfl rfl rfl ?_
   refine L_skip rfl rfl rfl ?_
   refine lO (pr_pick_t rfl rfl rfl) ?_
   refine L_nil ?_
   refine T_cond_t rfl ?_
   refine lR ?_
   refine lM ?_
   refine lM ?_
   refine lO (pr_ixa (j := i) (m' := i) sd oM Tryz.underlying62 (z := 1) kr rfl rfl rfl) ?_
   refine lQ (ld_blk 0 rfl (get8 sd) Tryz.underlying5 rfl rfl rfl) ?_
   refine lO (pr_and (ib_and8 _ (252#8)) rfl rfl rfl) ?_
   refine lO (pr_ixa (j := i) (m' := i) sd oM Tryz.underlying62 (z := 1) kr rfl rfl rfl) ?_
   refine L_op rfl (op_store (vs := [(b8 ((ath (List.set (rcl key i) i (ath key i)) i) &&& 252#8))]) (cs' := ((List.set (List.set (rcl key i) i (ath key i)) i ((ath (List.set (rcl key i) i (ath key i)) i) &&& 252#8)).map b8)) 0 rfl rfl kr (one_one rfl) (stl sd) (splice_map (f := b8) sd) rfl rfl rfl rfl ?_)
   refine L_nil ?_
   refine lR ?_
   refine lM ?_
   refine lO (pr_add (na_i64 (a := i) (b := 1) sd) rfl rfl rfl) ?_
   refine lS ?_
   refine L_nil ?_
   refine T_as 0 _ (.blk g3 62 ((rcl key (i + 1)).map b8)) rfl (by rw [rcl_c key i oM oM oM]) ?_
   exact T_again (i + 1) pN pN (sc rfl (sc rfl (sc rfl (sc rfl sn)))) [0, 1, 2] ⟨by decide, rfl⟩
  refine T_slot 25 (.bool (i == 4)) (.bool false) rfl (congrArg _ hc_9) ?_
  refine T_slot 24 (.bool (i == 4)) (.bool false) rfl (congrArg _ hc_9) ?_
  have hc_9 : ¬ i = 4 := by simpa using hc_9
  refine lM ?_
  refine lO (pr_cmp (bo := .eql) (nc_eq (a := i) (b := 8)) rfl rfl rfl rfl) ?_
  refine lO (pr_pick_f rfl rfl rfl) ?_
  refine lM ?_
  rcases Bool.eq_false_or_eq_true (i == 8) with hc_10 | hc_10
  ·refine T_slot 29 (.bool (i == 8)) (.bool true) rfl (congrArg _ hc_10) ?_
   refine T_slot 27 (.bool (i == 8)) (.bool true) rfl (congrArg _ hc_10) ?_
   refine T_slot 28 (.bool (i == 8)) (.bool true) rfl (congrArg _ hc_10) ?_
   have hc_10 : i = 8 := by simpa using hc_10
   refine L_skip rfl rfl rfl ?_
   refine L_skip rfl rfl rfl ?_
   refine lO (pr_pick_t rfl rfl rfl) ?_
   refine L_nil ?_
   refine T_cond_t rfl ?_
   refine lR ?_
   refine lM ?_
   refine lM ?_
   refine lO (pr_ixa (j := i) (m' := i) sd oM Tryz.underlying62 (z := 1) kr rfl rfl rfl) ?_
   refine lQ (ld_blk 0 rfl (get8 sd) Tryz.underlying5 rfl rfl rfl) ?_
   refine lO (pr_and (ib_and8 _ (252#8)) rfl rfl rfl) ?_
   refine lO (pr_ixa (j := i) (m' := i) sd oM Tryz.underlying62 (z := 1) kr rfl rfl rfl) ?_
   refine L_op rfl (op_store (vs := [(b8 ((ath (List.set (rcl key i) i (ath key i)) i) &&& 252#8))]) (cs' := ((List.set (List.set (rcl key i) i (ath key i)) i ((ath (List.set (rcl key i) i (ath key i)) i) &&& 252#8)).map b8)) 0 rfl rfl kr (one_one rfl) (stl sd) (splice_map (f := b8) sd) rfl rfl rfl rfl ?_)
   refine L_nil ?_
   refine lR ?_
   refine lM ?_
   refine lO (pr_add (na_i64 (a := i) (b := 1) sd) rfl rfl rfl) ?_
   refine lS ?_
   refine L_nil ?_
   refine T_as 0 _ (.blk g3 62 ((rcl key (i + 1)).map b8)) rfl (by rw [rcl_c key i oM oM oM]) ?_
   exact T_again (i + 1) pN pN (sc rfl (sc rfl (sc rfl (sc rfl sn)))) [0, 1, 2] ⟨by decide, rfl⟩
  refine T_slot 29 (.bool (i == 8)) (.bool false) rfl (congrArg _ hc_10) ?_
  refine T_slot 27 (.bool (i == 8)) (.bool false) rfl (congrArg _ hc_10) ?_
  refine T_slot 28 (.bool (i == 8)) (.bool false) rfl (congrArg _ hc_10) ?_
  have hc_10 : ¬ i = 8 := by simpa using hc_10
  refine lM ?_
  refine lO (pr_cmp (bo := .eql) (nc_eq (a := i) (b := 12)) rfl rfl rfl rfl) ?_
  refine lO (pr_pick_f rfl rfl rfl) ?_
  refine L_nil ?_
  refine T_cond (i == 12) rfl (fun hc_11 => ?_) (fun hc_11 => ?_)
  ·have hc_11 : i = 12 := by simpa using hc_11
   refine lR ?_
   refine lM ?_
   refine lM ?_
   refine lO (pr_ixa (j := i) (m' := i) sd oM Tryz.underlying62 (z := 1) kr rfl rfl rfl) ?_
   refine lQ (ld_blk 0 rfl (get8 sd) Tryz.underlying5 rfl rfl rfl) ?_
   refine lO (pr_and (ib_and8 _ (252#8)) rfl rfl rfl) ?_
   refine lO (pr_ixa (j := i) (m' := i) sd oM Tryz.underlying62 (z := 1) kr rfl rfl rfl) ?_
   refine L_op rfl (op_store (vs := [(b8 ((ath (List.set (rcl key i) i (ath key i)) i) &&& 252#8))]) (cs' := ((List.set (List.set (rcl key i) i (ath key i)) i ((ath (List.set (rcl key i) i (ath key i)) i) &&& 252#8)).map b8)) 0 rfl rfl kr (one_one rfl) (stl sd) (splice_map (f := b8) sd) rfl rfl rfl rfl ?_)
   refine L_nil ?_
   refine lR ?_
   refine lM ?_
   refine lO (pr_add (na_i64 (a := i) (b := 1) sd) rfl rfl rfl) ?_
   refine lS ?_
   refine L_nil ?_
   refine T_as 0 _ (.blk g3 62 ((rcl key (i + 1)).map b8)) rfl (by rw [rcl_c key i oM oM oM]) ?_
   exact T_again (i + 1) pN pN (sc rfl (sc rfl (sc rfl (sc rfl sn)))) [0, 1, 2] ⟨by decide, rfl⟩
  have hc_11 : ¬ i = 12 := by simpa using hc_11
  refine T_skip ?_
  refine lR ?_
  refine lM ?_
  refine lO (pr_add (na_i64 (a := i) (b := 1) sd) rfl rfl rfl) ?_
  refine lS ?_
  refine L_nil ?_
  refine T_as 0 _ (.blk g3 62 ((rcl key (i + 1)).map b8)) rfl (by rw [rcl_a key i oM oM oM]) ?_
  exact T_again (i + 1) pN pN (sc rfl (sc rfl (sc rfl (sc rfl sn)))) [0, 1, 2] ⟨by decide, rfl⟩
 have hc_4 := of_decide_eq_false hc_4
 refine T_exit rfl ?_
 obtain rfl : 16 = i := by omega
 refine lT ?_
 refine lQ (ld_agg (ds := ((rcl key 16).map b8)) 0 rfl agg_all Tryz.underlying62 rfl (fwz (n := 16) kr sd) rfl rfl) ?_
 refine L_op rfl (op_sto (n := 16) (vs := ((rcl key 16).map b8)) 1 rfl rfl kr (all8_one _) kr sd rfl rfl rfl rfl ?_)
 refine L_nil ?_
 refine T_ret ?_
 refine T_as 0 _ (.blk g2 62 ((clampb key).map b8)) rfl (by rw [rcl_all]) ?_
 exact T_fin () qN (resb 0 rfl rfl rfl Tryz.underlying62 rfl (fwz (n := 16) kr sd)) [] ⟨by decide, rfl⟩ rfl
set_option maxHeartbeats 4000000 in
theorem rcarry_f (xs : List (BitVec 32)) (B : Nat) (w : World) (hO : HOK [] w) (hx : xs.length = 40) (hB : Bd B xs) (hB2 : B ≤ 1073741824) : Calls Tryz.prog 86 [(.agg (xs.map b32).toArray)].toArray w (Ret (T := Unit) [] w (fun _ => True) (fun _ => (.agg ((dig 32 40 (vw xs)).map b32).toArray)) (fun _ => [])) := by
 have hdl := dig_len 32 40 (vw xs)
 refine enter (c := _) Tryz.func86 rfl [] _ [] (by rw [Tryz.ntmps86]; rfl) (own_rds hO rfl) ?_
 rw [Tryz.ntmps86]
 refine lE [(0, (.agg (xs.map b32).toArray))] ?_
 refine lH [] [] ?_
 refine lT ?_
 refine L_op rfl (op_box (zs := (xs.map b32)) rfl rfl rfl rfl rfl (fun g1 => ?_))
 refine L_op rfl (op_alloc (z := .agg ((List.replicate 40 0#32).map b32).toArray) (zs := ((List.replicate 40 0#32).map b32)) kr rfl rfl rfl rfl (fun g2 => ?_))
 refine lN ?_
 refine lS ?_
 refine L_nil ?_
 refine T_seq ?_
 refine lT ?_
 refine lS ?_
 refine L_nil ?_
 refine T_block ?_
 refine T_slot 3 (b32 (0#32)) (b32 (BitVec.ofNat 32 (cy xs 0))) rfl (by rw [cy_zero]) ?_
 refine T_as 1 _ (.blk g1 117 ((cw xs 0).map b32)) rfl (by rw [cw_zero]) ?_
 refine T_loop (T := Nat) (fun i => i ≤ 40) (fun i => [(1, (.pointer (some ⟨g1, 0, none⟩))), (2, (.pointer (some ⟨g2, 0, none⟩))), (3, (b32 (BitVec.ofNat 32 (cy xs i)))), (4, (.int .i64 ((i : Nat) : Int)))]) (fun i => [.blk g2 117 ((List.replicate 40 0#32).map b32), .blk g1 117 ((cw xs i).map b32)]) (fun i => 40 - i) 0 pN (sc rfl (sc rfl (sc rfl (sc rfl sn)))) [1, 0] ⟨by decide, rfl⟩ ?_
 rintro i hp
 have hp : i ≤ 40 := hp
 have hcwl : (cw xs i).length = 40 := by rw [cw_len xs i oM, hx]
 refine lE [(1, (.pointer (some ⟨g1, 0, none⟩))), (2, (.pointer (some ⟨g2, 0, none⟩))), (3, (b32 (BitVec.ofNat 32 (cy xs i)))), (4, (.int .i64 ((i : Nat) : Int)))] ?_
 refine lH [0, 1] [.blk g2 117 ((List.replicate 40 0#32).map b32), .blk g1 117 ((cw xs i).map b32)] ?_
 refine T_seq ?_
 refine lT ?_
 refine lM ?_
 refine lO (pr_cmp (bo := .lss) (nc_lt (a := i) (b := 40)) rfl rfl rfl rfl) ?_
 refine L_nil ?_
 refine T_cond (decide (i < 40)) rfl (fun hc_3 => ?_) (fun hc_3 => ?_)
 ·have hc_3 := of_decide_eq_true hc_3
  refine T_skip ?_
  refine T_seq ?_
  refine T_block ?_
  refine lT ?_
  refine lM ?_
  refine lM ?_
  refine lO (pr_ixa (j := i) (m' := i) sd oM Tryz.underlying117 (z := 1) kr rfl rfl rfl) ?_
  refine lQ (ld_blk 1 rfl (get32 sd) Tryz.underlying61 rfl rfl rfl) ?_
  refine lO (pr_add (add32 _ _) rfl rfl rfl) ?_
  refine lS ?_
  refine lN ?_
  refine lM ?_
  refine lM ?_
  refine lO (pr_and (ib_and32 _ (255#32)) rfl rfl rfl) ?_
  refine lO (pr_ixa (j := i) (m' := i) sd oM Tryz.underlying117 (z := 1) kr rfl rfl rfl) ?_
  refine L_op rfl (op_store (vs := [(b32 ((BitVec.ofNat 32 (cy xs i) + (ath (cw xs i) i)) &&& 255#32))]) (cs' := ((List.set (cw xs i) i ((BitVec.ofNat 32 (cy xs i) + (ath (cw xs i) i)) &&& 255#32)).map b32)) 1 rfl rfl kr (one_one rfl) (stl sd) (splice_map (f := b32) sd) rfl rfl rfl rfl ?_)
  refine L_nil ?_
  refine lR ?_
  refine lM ?_
  refine lO (pr_shift (sh_shr32 (BitVec.ofNat 32 (cy xs i) + (ath (cw xs i) i)) _ 8) rfl rfl rfl rfl) ?_
  refine lS ?_
  refine L_nil ?_
  refine lR ?_
  refine lM ?_
  refine lO (pr_add (na_i64 (a := i) (b := 1) sd) rfl rfl rfl) ?_
  refine lS ?_
  refine L_nil ?_
  refine T_slot 3 (b32 ((BitVec.ofNat 32 (cy xs i) + (ath (cw xs i) i)) >>> 8)) (b32 (BitVec.ofNat 32 (cy xs (i + 1)))) rfl (by rw [cy_step xs B hB hB2 i oM]) ?_
  refine T_as 0 _ (.blk g1 117 ((cw xs (i + 1)).map b32)) rfl (by rw [cw_step xs B hB hB2 i oM]) ?_
  exact T_again (i + 1) pN pN (sc rfl (sc rfl (sc rfl (sc rfl sn)))) [1, 0] ⟨by decide, rfl⟩
 have hc_3 := of_decide_eq_false hc_3
 refine T_exit rfl ?_
 obtain rfl : 40 = i := by omega
 refine lT ?_
 refine lQ (ld_agg (ds := ((cw xs 40).map b32)) 1 rfl agg_all Tryz.underlying117 rfl (fwz (n := 40) kr sd) rfl rfl) ?_
 refine L_op rfl (op_sto (n := 40) (vs := ((cw xs 40).map b32)) 0 rfl rfl kr (all32_one _) kr sd rfl rfl rfl rfl ?_)
 refine L_nil ?_
 refine T_ret ?_
 refine T_as 0 _ (.blk g2 117 ((dig 32 40 (vw xs)).map b32)) rfl (by rw [cw_all xs 40 hx]) ?_
 exact T_fin () qN (resb 0 rfl rfl rfl Tryz.underlying117 rfl (fwz (n := 40) kr sd)) [] ⟨by decide, rfl⟩ rfl
theorem redlow_s16 (v i : Nat) (h : i = 16) : (redlow v i).set i (ath (dig 32 40 v) i &&& 3#32) = redlow v (i + 1) := by subst h; exact redlow_set16 v
set_option maxHeartbeats 4000000 in
theorem rreduce_f (v : Nat) (w : World) (hO : HOK [] w) (hv : v < 2 ^ 256) : Calls Tryz.prog 87 [(.agg ((dig 32 40 v).map b32).toArray)].toArray w (Ret (T := Unit) [] w (fun _ => True) (fun _ => (.agg ((dig 32 40 (redk v 4)).map b32).toArray)) (fun _ => [])) := by
 have hdl := fun v => dig_len 32 40 v
 have hF : Wid Fence.wide := wid_wide
 refine enter (c := _) Tryz.func87 rfl [] _ [] (by rw [Tryz.ntmps87]; rfl) (own_rds hO rfl) ?_
 rw [Tryz.ntmps87]
 refine lE [(0, (.agg ((dig 32 40 v).map b32).toArray))] ?_
 refine lH [] [] ?_
 refine lT ?_
 refine L_op rfl (op_box (zs := ((dig 32 40 v).map b32)) rfl rfl rfl rfl rfl (fun g1 => ?_))
 refine L_op rfl (op_alloc (z := .agg ((List.replicate 40 0#32).map b32).toArray) (zs := ((List.replicate 40 0#32).map b32)) kr rfl rfl rfl rfl (fun g2 => ?_))
 refine L_nil ?_
 refine T_seq ?_
 refine lT ?_
 refine lS ?_
 refine L_nil ?_
 refine T_block ?_
 refine T_as 1 _ (.blk g1 117 ((dig 32 40 (redk v 0)).map b32)) rfl (by rw [redk_zero]) ?_
 refine T_loop (T := Nat) (fun k => k ≤ 4) (fun k => [(1, (.pointer (some ⟨g1, 0, none⟩))), (2, (.pointer (some ⟨g2, 0, none⟩))), (3, (.int .i64 ((k : Nat) : Int)))]) (fun k => [.blk g2 117 ((List.replicate 40 0#32).map b32), .blk g1 117 ((dig 32 40 (redk v k)).map b32)]) (fun k => 4 - k) 0 pN (sc rfl (sc rfl (sc rfl sn))) [1, 0] ⟨by decide, rfl⟩ ?_
 rintro k hp
 have hp : k ≤ 4 := hp
 have hd0 := hdl (redk v k)
 refine lE [(1, (.pointer (some ⟨g1, 0, none⟩))), (2, (.pointer (some ⟨g2, 0, none⟩))), (3, (.int .i64 ((k : Nat) : Int)))] ?_
 refine lH [0, 1] [.blk g2 117 ((List.replicate 40 0#32).map b32), .blk g1 117 ((dig 32 40 (redk v k)).map b32)] ?_
 refine T_seq ?_
 refine lT ?_
 refine lM ?_
 refine lO (pr_cmp (bo := .lss) (nc_lt (a := k) (b := 4)) rfl rfl rfl rfl) ?_
 refine L_nil ?_
 refine T_cond (decide (k < 4)) rfl (fun hc_3 => ?_) (fun hc_3 => ?_)
 ·have hc_3 := of_decide_eq_true hc_3
  refine T_skip ?_
  refine T_seq ?_
  refine T_block ?_
  refine lT ?_
  refine L_op rfl (op_alloc (z := .agg ((List.replicate 40 0#32).map b32).toArray) (zs := ((List.replicate 40 0#32).map b32)) kr rfl rfl rfl rfl (fun g4 => ?_))
  refine L_op rfl (op_alloc (z := .agg ((List.replicate 40 0#32).map b32).toArray) (zs := ((List.replicate 40 0#32).map b32)) kr rfl rfl rfl rfl (fun g5 => ?_))
  refine L_nil ?_
  refine T_seq ?_
  refine lT ?_
  refine lS ?_
  refine L_nil ?_
  refine T_block ?_
  refine T_as 0 _ (.blk g5 117 ((redlow (redk v k) 0).map b32)) rfl (by rw [← redlow_zero]) ?_
  refine T_as 1 _ (.blk g4 117 ((redhigh (redk v k) 0).map b32)) rfl (by rw [← redhigh_zero]) ?_
  refine T_loop (T := Nat) (fun i => i ≤ 40) (fun i => [(1, (.pointer (some ⟨g1, 0, none⟩))), (2, (.pointer (some ⟨g2, 0, none⟩))), (3, (.int .i64 ((k : Nat) : Int))), (4, (.pointer (some ⟨g4, 0, none⟩))), (5, (.pointer (some ⟨g5, 0, none⟩))), (6, (.int .i64 ((i : Nat) : Int)))]) (fun i => [.blk g5 117 ((redlow (redk v k) i).map b32), .blk g4 117 ((redhigh (redk v k) i).map b32), .blk g2 117 ((List.replicate 40 0#32).map b32), .blk g1 117 ((dig 32 40 (redk v k)).map b32)]) (fun i => 40 - i) 0 pN (sc rfl (sc rfl (sc rfl (sc rfl (sc rfl (sc rfl sn)))))) [1, 0, 2, 3] ⟨by decide, rfl⟩ ?_
  rintro i hp
  have hp : i ≤ 40 := hp
  have hll := redlow_len (redk v k) i
  have hhl := redhigh_len (redk v k) i
  refine lE [(1, (.pointer (some ⟨g1, 0, none⟩))), (2, (.pointer (some ⟨g2, 0, none⟩))), (3, (.int .i64 ((k : Nat) : Int))), (4, (.pointer (some ⟨g4, 0, none⟩))), (5, (.pointer (some ⟨g5, 0, none⟩))), (6, (.int .i64 ((i : Nat) : Int)))] ?_
  refine lH [0, 1, 2, 3] [.blk g5 117 ((redlow (redk v k) i).map b32), .blk g4 117 ((redhigh (redk v k) i).map b32), .blk g2 117 ((List.replicate 40 0#32).map b32), .blk g1 117 ((dig 32 40 (redk v k)).map b32)] ?_
  refine T_seq ?_
  refine lT ?_
  refine lM ?_
  refine lO (pr_cmp (bo := .lss) (nc_lt (a := i) (b := 40)) rfl rfl rfl rfl) ?_
  refine L_nil ?_
  refine T_cond (decide (i < 40)) rfl (fun hc_6 => ?_) (fun hc_6 => ?_)
  ·have hc_6 := of_decide_eq_true hc_6
   refine T_skip ?_
   refine T_seq ?_
   refine T_block ?_
   refine T_seq ?_
   refine T_block ?_
   refine lT ?_
   refine lM ?_
   refine lO (pr_cmp (bo := .lss) (nc_lt (a := i) (b := 16)) rfl rfl rfl rfl) ?_
   refine lS ?_
   refine L_nil ?_
   refine T_cond (decide (i < 16)) rfl (fun hc_7 => ?_) (fun hc_7 => ?_)
   ·have hc_7 := of_decide_eq_true hc_7
    refine lR ?_
    refine lM ?_
    refine lM ?_
    refine lO (pr_ixa (j := i) (m' := i) sd oM Tryz.underlying117 (z := 1) kr rfl rfl rfl) ?_
    refine lQ (ld_blk 3 rfl (get32 sd) Tryz.underlying61 rfl rfl rfl) ?_
    refine lO (pr_ixa (j := i) (m' := i) sd oM Tryz.underlying117 (z := 1) kr rfl rfl rfl) ?_
    refine L_op rfl (op_store (vs := [(b32 (ath (dig 32 40 (redk v k)) i))]) (cs' := ((List.set (redlow (redk v k) i) i (ath (dig 32 40 (redk v k)) i)).map b32)) 0 rfl rfl kr (one_one rfl) (stl sd) (splice_map (f := b32) sd) rfl rfl rfl rfl ?_)
    refine lN ?_
    refine lM ?_
    refine lO (pr_cmp (bo := .geq) (nc_le (a := 16) (b := i)) rfl rfl rfl rfl) ?_
    refine L_nil ?_
    refine T_cond (decide (16 ≤ i)) rfl (fun hc_8 => ?_) (fun hc_8 => ?_)
    ·have hc_8 := of_decide_eq_true hc_8
     refine lT ?_
     refine lS ?_
     refine L_nil ?_
     refine T_seq ?_
     refine lT ?_
     refine lM ?_
     refine lO (pr_add (na_i64 (a := i) (b := 1) sd) rfl rfl rfl) ?_
     refine lO (pr_cmp (bo := .lss) (nc_lt (a := i + 1) (b := 40)) rfl rfl rfl rfl) ?_
     refine L_nil ?_
     refine T_cond (decide (i + 1 < 40)) rfl (fun hc_9 => ?_) (fun hc_9 => ?_)
     ·have hc_9 := of_decide_eq_true hc_9
      refine lR ?_
      refine lM ?_
      refine lO (pr_add (na_i64 (a := i) (b := 1) sd) rfl rfl rfl) ?_
      refine lO (pr_ixa (j := i + 1) (m' := i + 1) sd oM Tryz.underlying117 (z := 1) kr rfl rfl rfl) ?_
      refine lQ (ld_blk 3 rfl (get32 sd) Tryz.underlying61 rfl rfl rfl) ?_
      refine lS ?_
      refine L_nil ?_
      refine lR ?_
      refine lM ?_
      refine lO (pr_sub (ns_i64 (a := i) (b := 16) sd sd) rfl rfl rfl) ?_
      refine lM ?_
      refine lO (pr_ixa (j := i) (m' := i) sd oM Tryz.underlying117 (z := 1) kr rfl rfl rfl) ?_
      refine lQ (ld_blk 3 rfl (get32 sd) Tryz.underlying61 rfl rfl rfl) ?_
      refine lO (pr_shift (sh_shr32 (ath (dig 32 40 (redk v k)) i) _ 2) rfl rfl rfl rfl) ?_
      refine lM ?_
      refine lO (pr_shift (sh_shl32 (ath (dig 32 40 (redk v k)) (i + 1)) _ 6) rfl rfl rfl rfl) ?_
      refine lO (pr_and (ib_and32 _ (255#32)) rfl rfl rfl) ?_
      refine lO (pr_or (ib_or32 _ _) rfl rfl rfl) ?_
      refine lO (pr_ixa (j := i - 16) (m' := i - 16) sd oM Tryz.underlying117 (z := 1) kr rfl rfl rfl) ?_
      refine L_op rfl (op_store (vs := [(b32 (((ath (dig 32 40 (redk v k)) i) >>> 2) ||| (((ath (dig 32 40 (redk v k)) (i + 1)) <<< 6) &&& 255#32)))]) (cs' := ((List.set (redhigh (redk v k) i) (i - 16) (((ath (dig 32 40 (redk v k)) i) >>> 2) ||| (((ath (dig 32 40 (redk v k)) (i + 1)) <<< 6) &&& 255#32))).map b32)) 1 rfl rfl kr (one_one rfl) (stl sd) (splice_map (f := b32) sd) rfl rfl rfl rfl ?_)
      refine L_nil ?_
      refine lR ?_
      refine lM ?_
      refine lO (pr_add (na_i64 (a := i) (b := 1) sd) rfl rfl rfl) ?_
      refine lS ?_
      refine L_nil ?_
      refine T_as 1 _ (.blk g5 117 ((redlow (redk v k) (i + 1)).map b32)) rfl (by exfalso; omega) ?_
      refine T_as 1 _ (.blk g4 117 ((redhigh (redk v k) (i + 1)).map b32)) rfl (by exfalso; omega) ?_
      exact T_again (i + 1) pN pN (sc rfl (sc rfl (sc rfl (sc rfl (sc rfl (sc rfl sn)))))) [1, 0, 2, 3] ⟨by decide, rfl⟩
     have hc_9 := of_decide_eq_false hc_9
     refine T_skip ?_
     refine lR ?_
     refine lM ?_
     refine lO (pr_sub (ns_i64 (a := i) (b := 16) sd sd) rfl rfl rfl) ?_
     refine lM ?_
     refine lO (pr_ixa (j := i) (m' := i) sd oM Tryz.underlying117 (z := 1) kr rfl rfl rfl) ?_
     refine lQ (ld_blk 3 rfl (get32 sd) Tryz.underlying61 rfl rfl rfl) ?_
     refine lO (pr_shift (sh_shr32 (ath (dig 32 40 (redk v k)) i) _ 2) rfl rfl rfl rfl) ?_
     refine lM ?_
     refine lO (pr_shift (sh_shl32 (0#32) _ 6) rfl rfl rfl rfl) ?_
     refine lO (pr_and (ib_and32 _ (255#32)) rfl rfl rfl) ?_
     refine lO (pr_or (ib_or32 _ _) rfl rfl rfl) ?_
     refine lO (pr_ixa (j := i - 16) (m' := i - 16) sd oM Tryz.underlying117 (z := 1) kr rfl rfl rfl) ?_
     refine L_op rfl (op_store (vs := [(b32 (((ath (dig 32 40 (redk v k)) i) >>> 2) ||| ((0#32 <<< 6) &&& 255#32)))]) (cs' := ((List.set (redhigh (redk v k) i) (i - 16) (((ath (dig 32 40 (redk v k)) i) >>> 2) ||| ((0#32 <<< 6) &&& 255#32))).map b32)) 1 rfl rfl kr (one_one rfl) (stl sd) (splice_map (f := b32) sd) rfl rfl rfl rfl ?_)
     refine L_nil ?_
     refine lR ?_
     refine lM ?_
     refine lO (pr_add (na_i64 (a := i) (b := 1) sd) rfl rfl rfl) ?_
     refine lS ?_
     refine L_nil ?_
     refine T_as 1 _ (.blk g5 117 ((redlow (redk v k) (i + 1)).map b32)) rfl (by exfalso; omega) ?_
     refine T_as 1 _ (.blk g4 117 ((redhigh (redk v k) (i + 1)).map b32)) rfl (by exfalso; omega) ?_
     exact T_again (i + 1) pN pN (sc rfl (sc rfl (sc rfl (sc rfl (sc rfl (sc rfl sn)))))) [1, 0, 2, 3] ⟨by decide, rfl⟩
    have hc_8 := of_decide_eq_false hc_8
    refine T_skip ?_
    refine lR ?_
    refine lM ?_
    refine lO (pr_add (na_i64 (a := i) (b := 1) sd) rfl rfl rfl) ?_
    refine lS ?_
    refine L_nil ?_
    refine T_as 0 _ (.blk g5 117 ((redlow (redk v k) (i + 1)).map b32)) rfl (by rw [redlow_set (redk v k) i oM]) ?_
    refine T_as 1 _ (.blk g4 117 ((redhigh (redk v k) (i + 1)).map b32)) rfl (by rw [redhigh_stay (redk v k) i oM]) ?_
    exact T_again (i + 1) pN pN (sc rfl (sc rfl (sc rfl (sc rfl (sc rfl (sc rfl sn)))))) [1, 0, 2, 3] ⟨by decide, rfl⟩
   have hc_7 := of_decide_eq_false hc_7
   refine lT ?_
   refine lM ?_
   refine lO (pr_cmp (bo := .eql) (nc_eq (a := i) (b := 16)) rfl rfl rfl rfl) ?_
   refine lS ?_
   refine L_nil ?_
   refine T_cond (i == 16) rfl (fun hc_10 => ?_) (fun hc_10 => ?_)
   ·have hc_10 : i = 16 := by simpa using hc_10
    refine lR ?_
    refine lM ?_
    refine lM ?_
    refine lO (pr_ixa (j := i) (m' := i) sd oM Tryz.underlying117 (z := 1) kr rfl rfl rfl) ?_
    refine lQ (ld_blk 3 rfl (get32 sd) Tryz.underlying61 rfl rfl rfl) ?_
    refine lO (pr_and (ib_and32 _ (3#32)) rfl rfl rfl) ?_
    refine lO (pr_ixa (j := i) (m' := i) sd oM Tryz.underlying117 (z := 1) kr rfl rfl rfl) ?_
    refine L_op rfl (op_store (vs := [(b32 ((ath (dig 32 40 (redk v k)) i) &&& 3#32))]) (cs' := ((List.set (redlow (redk v k) i) i ((ath (dig 32 40 (redk v k)) i) &&& 3#32)).map b32)) 0 rfl rfl kr (one_one rfl) (stl sd) (splice_map (f := b32) sd) rfl rfl rfl rfl ?_)
    refine lN ?_
    refine lM ?_
    refine lO (pr_cmp (bo := .geq) (nc_le (a := 16) (b := i)) rfl rfl rfl rfl) ?_
    refine L_nil ?_
    refine T_cond (decide (16 ≤ i)) rfl (fun hc_11 => ?_) (fun hc_11 => ?_)
    ·have hc_11 := of_decide_eq_true hc_11
     refine lT ?_
     refine lS ?_
     refine L_nil ?_
     refine T_seq ?_
     refine lT ?_
     refine lM ?_
     refine lO (pr_add (na_i64 (a := i) (b := 1) sd) rfl rfl rfl) ?_
     refine lO (pr_cmp (bo := .lss) (nc_lt (a := i + 1) (b := 40)) rfl rfl rfl rfl) ?_
     refine L_nil ?_
     refine T_cond (decide (i + 1 < 40)) rfl (fun hc_12 => ?_) (fun hc_12 => ?_)
     ·have hc_12 := of_decide_eq_true hc_12
      refine lR ?_
      refine lM ?_
      refine lO (pr_add (na_i64 (a := i) (b := 1) sd) rfl rfl rfl) ?_
      refine lO (pr_ixa (j := i + 1) (m' := i + 1) sd oM Tryz.underlying117 (z := 1) kr rfl rfl rfl) ?_
      refine lQ (ld_blk 3 rfl (get32 sd) Tryz.underlying61 rfl rfl rfl) ?_
      refine lS ?_
      refine L_nil ?_
      refine lR ?_
      refine lM ?_
      refine lO (pr_sub (ns_i64 (a := i) (b := 16) sd sd) rfl rfl rfl) ?_
      refine lM ?_
      refine lO (pr_ixa (j := i) (m' := i) sd oM Tryz.underlying117 (z := 1) kr rfl rfl rfl) ?_
      refine lQ (ld_blk 3 rfl (get32 sd) Tryz.underlying61 rfl rfl rfl) ?_
      refine lO (pr_shift (sh_shr32 (ath (dig 32 40 (redk v k)) i) _ 2) rfl rfl rfl rfl) ?_
      refine lM ?_
      refine lO (pr_shift (sh_shl32 (ath (dig 32 40 (redk v k)) (i + 1)) _ 6) rfl rfl rfl rfl) ?_
      refine lO (pr_and (ib_and32 _ (255#32)) rfl rfl rfl) ?_
      refine lO (pr_or (ib_or32 _ _) rfl rfl rfl) ?_
      refine lO (pr_ixa (j := i - 16) (m' := i - 16) sd oM Tryz.underlying117 (z := 1) kr rfl rfl rfl) ?_
      refine L_op rfl (op_store (vs := [(b32 (((ath (dig 32 40 (redk v k)) i) >>> 2) ||| (((ath (dig 32 40 (redk v k)) (i + 1)) <<< 6) &&& 255#32)))]) (cs' := ((List.set (redhigh (redk v k) i) (i - 16) (((ath (dig 32 40 (redk v k)) i) >>> 2) ||| (((ath (dig 32 40 (redk v k)) (i + 1)) <<< 6) &&& 255#32))).map b32)) 1 rfl rfl kr (one_one rfl) (stl sd) (splice_map (f := b32) sd) rfl rfl rfl rfl ?_)
      refine L_nil ?_
      refine lR ?_
      refine lM ?_
      refine lO (pr_add (na_i64 (a := i) (b := 1) sd) rfl rfl rfl) ?_
      refine lS ?_
      refine L_nil ?_
      refine T_as 1 _ (.blk g5 117 ((redlow (redk v k) (i + 1)).map b32)) rfl (by rw [redlow_s16 (redk v k) i oM]) ?_
      refine T_as 1 _ (.blk g4 117 ((redhigh (redk v k) (i + 1)).map b32)) rfl (by rw [redhigh_set (redk v k) i oM oM _ (redk_lt40 v k hv) (by rw [if_pos oM])]) ?_
      exact T_again (i + 1) pN pN (sc rfl (sc rfl (sc rfl (sc rfl (sc rfl (sc rfl sn)))))) [1, 0, 2, 3] ⟨by decide, rfl⟩
     have hc_12 := of_decide_eq_false hc_12
     refine T_skip ?_
     refine lR ?_
     refine lM ?_
     refine lO (pr_sub (ns_i64 (a := i) (b := 16) sd sd) rfl rfl rfl) ?_
     refine lM ?_
     refine lO (pr_ixa (j := i) (m' := i) sd oM Tryz.underlying117 (z := 1) kr rfl rfl rfl) ?_
     refine lQ (ld_blk 3 rfl (get32 sd) Tryz.underlying61 rfl rfl rfl) ?_
     refine lO (pr_shift (sh_shr32 (ath (dig 32 40 (redk v k)) i) _ 2) rfl rfl rfl rfl) ?_
     refine lM ?_
     refine lO (pr_shift (sh_shl32 (0#32) _ 6) rfl rfl rfl rfl) ?_
     refine lO (pr_and (ib_and32 _ (255#32)) rfl rfl rfl) ?_
     refine lO (pr_or (ib_or32 _ _) rfl rfl rfl) ?_
     refine lO (pr_ixa (j := i - 16) (m' := i - 16) sd oM Tryz.underlying117 (z := 1) kr rfl rfl rfl) ?_
     refine L_op rfl (op_store (vs := [(b32 (((ath (dig 32 40 (redk v k)) i) >>> 2) ||| ((0#32 <<< 6) &&& 255#32)))]) (cs' := ((List.set (redhigh (redk v k) i) (i - 16) (((ath (dig 32 40 (redk v k)) i) >>> 2) ||| ((0#32 <<< 6) &&& 255#32))).map b32)) 1 rfl rfl kr (one_one rfl) (stl sd) (splice_map (f := b32) sd) rfl rfl rfl rfl ?_)
     refine L_nil ?_
     refine lR ?_
     refine lM ?_
     refine lO (pr_add (na_i64 (a := i) (b := 1) sd) rfl rfl rfl) ?_
     refine lS ?_
     refine L_nil ?_
     refine T_as 1 _ (.blk g5 117 ((redlow (redk v k) (i + 1)).map b32)) rfl (by exfalso; omega) ?_
     refine T_as 1 _ (.blk g4 117 ((redhigh (redk v k) (i + 1)).map b32)) rfl (by exfalso; omega) ?_
     exact T_again (i + 1) pN pN (sc rfl (sc rfl (sc rfl (sc rfl (sc rfl (sc rfl sn)))))) [1, 0, 2, 3] ⟨by decide, rfl⟩
    have hc_11 := of_decide_eq_false hc_11
    refine T_skip ?_
    refine lR ?_
    refine lM ?_
    refine lO (pr_add (na_i64 (a := i) (b := 1) sd) rfl rfl rfl) ?_
    refine lS ?_
    refine L_nil ?_
    refine T_as 0 _ (.blk g5 117 ((redlow (redk v k) (i + 1)).map b32)) rfl (by exfalso; omega) ?_
    refine T_as 1 _ (.blk g4 117 ((redhigh (redk v k) (i + 1)).map b32)) rfl (by exfalso; omega) ?_
    exact T_again (i + 1) pN pN (sc rfl (sc rfl (sc rfl (sc rfl (sc rfl (sc rfl sn)))))) [1, 0, 2, 3] ⟨by decide, rfl⟩
   have hc_10 : ¬ i = 16 := by simpa using hc_10
   refine T_skip ?_
   refine lT ?_
   refine lM ?_
   refine lO (pr_cmp (bo := .geq) (nc_le (a := 16) (b := i)) rfl rfl rfl rfl) ?_
   refine L_nil ?_
   refine T_cond (decide (16 ≤ i)) rfl (fun hc_13 => ?_) (fun hc_13 => ?_)
   ·have hc_13 := of_decide_eq_true hc_13
    refine lT ?_
    refine lS ?_
    refine L_nil ?_
    refine T_seq ?_
    refine lT ?_
    refine lM ?_
    refine lO (pr_add (na_i64 (a := i) (b := 1) sd) rfl rfl rfl) ?_
    refine lO (pr_cmp (bo := .lss) (nc_lt (a := i + 1) (b := 40)) rfl rfl rfl rfl) ?_
    refine L_nil ?_
    refine T_cond (decide (i + 1 < 40)) rfl (fun hc_14 => ?_) (fun hc_14 => ?_)
    ·have hc_14 := of_decide_eq_true hc_14
     refine lR ?_
     refine lM ?_
     refine lO (pr_add (na_i64 (a := i) (b := 1) sd) rfl rfl rfl) ?_
     refine lO (pr_ixa (j := i + 1) (m' := i + 1) sd oM Tryz.underlying117 (z := 1) kr rfl rfl rfl) ?_
     refine lQ (ld_blk 3 rfl (get32 sd) Tryz.underlying61 rfl rfl rfl) ?_
     refine lS ?_
     refine L_nil ?_
     refine lR ?_
     refine lM ?_
     refine lO (pr_sub (ns_i64 (a := i) (b := 16) sd sd) rfl rfl rfl) ?_
     refine lM ?_
     refine lO (pr_ixa (j := i) (m' := i) sd oM Tryz.underlying117 (z := 1) kr rfl rfl rfl) ?_
     refine lQ (ld_blk 3 rfl (get32 sd) Tryz.underlying61 rfl rfl rfl) ?_
     refine lO (pr_shift (sh_shr32 (ath (dig 32 40 (redk v k)) i) _ 2) rfl rfl rfl rfl) ?_
     refine lM ?_
     refine lO (pr_shift (sh_shl32 (ath (dig 32 40 (redk v k)) (i + 1)) _ 6) rfl rfl rfl rfl) ?_
     refine lO (pr_and (ib_and32 _ (255#32)) rfl rfl rfl) ?_
     refine lO (pr_or (ib_or32 _ _) rfl rfl rfl) ?_
     refine lO (pr_ixa (j := i - 16) (m' := i - 16) sd oM Tryz.underlying117 (z := 1) kr rfl rfl rfl) ?_
     refine L_op rfl (op_store (vs := [(b32 (((ath (dig 32 40 (redk v k)) i) >>> 2) ||| (((ath (dig 32 40 (redk v k)) (i + 1)) <<< 6) &&& 255#32)))]) (cs' := ((List.set (redhigh (redk v k) i) (i - 16) (((ath (dig 32 40 (redk v k)) i) >>> 2) ||| (((ath (dig 32 40 (redk v k)) (i + 1)) <<< 6) &&& 255#32))).map b32)) 1 rfl rfl kr (one_one rfl) (stl sd) (splice_map (f := b32) sd) rfl rfl rfl rfl ?_)
     refine L_nil ?_
     refine lR ?_
     refine lM ?_
     refine lO (pr_add (na_i64 (a := i) (b := 1) sd) rfl rfl rfl) ?_
     refine lS ?_
     refine L_nil ?_
     refine T_as 1 _ (.blk g5 117 ((redlow (redk v k) (i + 1)).map b32)) rfl (by rw [redlow_stay (redk v k) i oM]) ?_
     refine T_as 1 _ (.blk g4 117 ((redhigh (redk v k) (i + 1)).map b32)) rfl (by rw [redhigh_set (redk v k) i oM oM _ (redk_lt40 v k hv) (by rw [if_pos oM])]) ?_
     exact T_again (i + 1) pN pN (sc rfl (sc rfl (sc rfl (sc rfl (sc rfl (sc rfl sn)))))) [1, 0, 2, 3] ⟨by decide, rfl⟩
    have hc_14 := of_decide_eq_false hc_14
    refine T_skip ?_
    refine lR ?_
    refine lM ?_
    refine lO (pr_sub (ns_i64 (a := i) (b := 16) sd sd) rfl rfl rfl) ?_
    refine lM ?_
    refine lO (pr_ixa (j := i) (m' := i) sd oM Tryz.underlying117 (z := 1) kr rfl rfl rfl) ?_
    refine lQ (ld_blk 3 rfl (get32 sd) Tryz.underlying61 rfl rfl rfl) ?_
    refine lO (pr_shift (sh_shr32 (ath (dig 32 40 (redk v k)) i) _ 2) rfl rfl rfl rfl) ?_
    refine lM ?_
    refine lO (pr_shift (sh_shl32 (0#32) _ 6) rfl rfl rfl rfl) ?_
    refine lO (pr_and (ib_and32 _ (255#32)) rfl rfl rfl) ?_
    refine lO (pr_or (ib_or32 _ _) rfl rfl rfl) ?_
    refine lO (pr_ixa (j := i - 16) (m' := i - 16) sd oM Tryz.underlying117 (z := 1) kr rfl rfl rfl) ?_
    refine L_op rfl (op_store (vs := [(b32 (((ath (dig 32 40 (redk v k)) i) >>> 2) ||| ((0#32 <<< 6) &&& 255#32)))]) (cs' := ((List.set (redhigh (redk v k) i) (i - 16) (((ath (dig 32 40 (redk v k)) i) >>> 2) ||| ((0#32 <<< 6) &&& 255#32))).map b32)) 1 rfl rfl kr (one_one rfl) (stl sd) (splice_map (f := b32) sd) rfl rfl rfl rfl ?_)
    refine L_nil ?_
    refine lR ?_
    refine lM ?_
    refine lO (pr_add (na_i64 (a := i) (b := 1) sd) rfl rfl rfl) ?_
    refine lS ?_
    refine L_nil ?_
    refine T_as 1 _ (.blk g5 117 ((redlow (redk v k) (i + 1)).map b32)) rfl (by rw [redlow_stay (redk v k) i oM]) ?_
    refine T_as 1 _ (.blk g4 117 ((redhigh (redk v k) (i + 1)).map b32)) rfl (by rw [redhigh_set (redk v k) i oM oM _ (redk_lt40 v k hv) (by rw [if_neg oM])]) ?_
    exact T_again (i + 1) pN pN (sc rfl (sc rfl (sc rfl (sc rfl (sc rfl (sc rfl sn)))))) [1, 0, 2, 3] ⟨by decide, rfl⟩
   have hc_13 := of_decide_eq_false hc_13
   refine T_skip ?_
   refine lR ?_
   refine lM ?_
   refine lO (pr_add (na_i64 (a := i) (b := 1) sd) rfl rfl rfl) ?_
   refine lS ?_
   refine L_nil ?_
   refine T_as 0 _ (.blk g5 117 ((redlow (redk v k) (i + 1)).map b32)) rfl (by exfalso; omega) ?_
   refine T_as 1 _ (.blk g4 117 ((redhigh (redk v k) (i + 1)).map b32)) rfl (by exfalso; omega) ?_
   exact T_again (i + 1) pN pN (sc rfl (sc rfl (sc rfl (sc rfl (sc rfl (sc rfl sn)))))) [1, 0, 2, 3] ⟨by decide, rfl⟩
  have hc_6 := of_decide_eq_false hc_6
  refine T_exit rfl ?_
  obtain rfl : 40 = i := by omega
  refine T_seq ?_
  refine lT ?_
  refine lS ?_
  refine L_nil ?_
  refine T_block ?_
  refine T_as 0 _ (.blk g5 117 ((lowhigh (redk v k) 0).map b32)) rfl (by rw [redlow_all, lowhigh_zero]) ?_
  refine T_as 1 _ (.blk g4 117 ((dig 32 40 ((redk v k) / 1361129467683753853853498429727072845824)).map b32)) rfl (by rw [redhigh_all _ (redk_lt40 v k hv)]) ?_
  refine T_loop (T := Nat) (fun q => q ≤ 40) (fun q => [(1, (.pointer (some ⟨g1, 0, none⟩))), (2, (.pointer (some ⟨g2, 0, none⟩))), (3, (.int .i64 ((k : Nat) : Int))), (4, (.pointer (some ⟨g4, 0, none⟩))), (5, (.pointer (some ⟨g5, 0, none⟩))), (8, (.int .i64 ((q : Nat) : Int)))]) (fun q => [.blk g5 117 ((lowhigh (redk v k) q).map b32), .blk g4 117 ((dig 32 40 ((redk v k) / 1361129467683753853853498429727072845824)).map b32), .blk g2 117 ((List.replicate 40 0#32).map b32), .blk g1 117 ((dig 32 40 (redk v k)).map b32)]) (fun q => 40 - q) 0 pN (sc rfl (sc rfl (sc rfl (sc rfl (sc rfl (sc rfl sn)))))) [1, 0, 2, 3] ⟨by decide, rfl⟩ ?_
  rintro q hp
  have hp : q ≤ 40 := hp
  have hlh := lowhigh_len (redk v k) q
  have hd1 := hdl ((redk v k) / 1361129467683753853853498429727072845824)
  refine lE [(1, (.pointer (some ⟨g1, 0, none⟩))), (2, (.pointer (some ⟨g2, 0, none⟩))), (3, (.int .i64 ((k : Nat) : Int))), (4, (.pointer (some ⟨g4, 0, none⟩))), (5, (.pointer (some ⟨g5, 0, none⟩))), (8, (.int .i64 ((q : Nat) : Int)))] ?_
  refine lH [0, 1, 2, 3] [.blk g5 117 ((lowhigh (redk v k) q).map b32), .blk g4 117 ((dig 32 40 ((redk v k) / 1361129467683753853853498429727072845824)).map b32), .blk g2 117 ((List.replicate 40 0#32).map b32), .blk g1 117 ((dig 32 40 (redk v k)).map b32)] ?_
  refine T_seq ?_
  refine lT ?_
  refine lM ?_
  refine lO (pr_cmp (bo := .lss) (nc_lt (a := q) (b := 40)) rfl rfl rfl rfl) ?_
  refine L_nil ?_
  refine T_cond (decide (q < 40)) rfl (fun hc_15 => ?_) (fun hc_15 => ?_)
  ·have hc_15 := of_decide_eq_true hc_15
   refine T_skip ?_
   refine T_seq ?_
   refine T_block ?_
   refine T_regD [.blk g5 117 ((lowhigh (redk v k) q).map b32), .blk g4 117 ((dig 32 40 ((redk v k) / 1361129467683753853853498429727072845824)).map b32), .blk g2 117 ((List.replicate 40 0#32).map b32), .blk g1 117 ((dig 32 40 (redk v k)).map b32)] 10 11 #[false, false, false, false, false, false, false, false, false, false, false] hF kr kr ?_
   refine D_pure (i := 0) [0, 1, 2, 3] rfl kr rfl (pr_move rfl rfl) (.inr rfl) rfl rfl ?_
   refine D_pure (i := 1) [0, 1, 2, 3] rfl kr rfl (pr_move rfl rfl) (.inr rfl) rfl rfl ?_
   refine D_pure (i := 2) [0, 1, 2, 3] rfl kr rfl (pr_ixa (j := q) (m' := q) sd oM Tryz.underlying117 (z := 1) kr rfl rfl rfl) (.inr rfl) rfl rfl ?_
   refine D_pure (i := 4) [0, 1, 2, 3] rfl kr rfl (pr_move rfl rfl) (.inr rfl) rfl rfl ?_
   refine D_pure (i := 5) [0, 1, 2, 3] rfl kr rfl (pr_ixa (j := q) (m' := q) sd oM Tryz.underlying117 (z := 1) kr rfl rfl rfl) (.inr rfl) rfl rfl ?_
   refine D_take (i := 3) [0, 1, 2, 3] rfl kr rfl (ld_blk 0 rfl (get32 sd) Tryz.underlying61 rfl rfl rfl) rfl rfl rfl ?_
   refine D_take (i := 6) [0, 1, 2, 3] rfl kr rfl (ld_blk 1 rfl (get32 sd) Tryz.underlying61 rfl rfl rfl) rfl rfl rfl ?_
   refine D_pure (i := 7) [0, 1, 2, 3] rfl kr rfl (pr_mul (mul32 (5#32) _) rfl rfl rfl) (.inr rfl) rfl rfl ?_
   refine D_pure (i := 8) [0, 1, 2, 3] rfl kr rfl (pr_add (add32 _ _) rfl rfl rfl) (.inr rfl) rfl rfl ?_
   refine D_pure (i := 9) [0, 1, 2, 3] rfl kr rfl (pr_ixa (j := q) (m' := q) sd oM Tryz.underlying117 (z := 1) kr rfl rfl rfl) (.inr rfl) rfl rfl ?_
   refine D_one 10 _ rfl kr rfl (op_store (vs := [(b32 ((ath (lowhigh (redk v k) q) q) + (5#32 * (ath (dig 32 40 ((redk v k) / 1361129467683753853853498429727072845824)) q))))]) (cs' := ((List.set (lowhigh (redk v k) q) q ((ath (lowhigh (redk v k) q) q) + (5#32 * (ath (dig 32 40 ((redk v k) / 1361129467683753853853498429727072845824)) q)))).map b32)) 0 rfl rfl kr (one_one rfl) (stl sd) (splice_map (f := b32) sd) rfl rfl rfl rfl ?_)
   refine D_past kr ?_
   refine D_done kr ?_
   refine lR ?_
   refine lM ?_
   refine lO (pr_add (na_i64 (a := q) (b := 1) sd) rfl rfl rfl) ?_
   refine lS ?_
   refine L_nil ?_
   refine T_as 0 _ (.blk g5 117 ((lowhigh (redk v k) (q + 1)).map b32)) rfl (by rw [lowhigh_set _ _ oM]) ?_
   exact T_again (q + 1) pN pN (sc rfl (sc rfl (sc rfl (sc rfl (sc rfl (sc rfl sn)))))) [0, 1, 2, 3] ⟨by decide, rfl⟩
  have hc_15 := of_decide_eq_false hc_15
  refine T_exit rfl ?_
  obtain rfl : 40 = q := by omega
  refine lR ?_
  refine lQ (ld_agg (ds := ((lowhigh (redk v k) 40).map b32)) 0 rfl agg_all Tryz.underlying117 rfl (fwz (n := 40) kr sd) rfl rfl) ?_
  refine L_op rfl (op_cn (fun w hw => rcarry_f (lowhigh (redk v k) 40) 2000 w (hok_nil w) (lowhigh_len _ _) (lowhigh_bd _) sd) (enters_of Tryz.func86 kr rfl) rfl rfl rfl rfl rfl (fun t16 q17 => ?_))
  refine T_slot 69 _ (.agg ((dig 32 40 (redk v (k + 1))).map b32).toArray) rfl (by rw [lowhigh_vw _ (redk_lt40 v k hv), redk_succ]) ?_
  refine L_op rfl (op_sto (n := 40) (vs := ((dig 32 40 (redk v (k + 1))).map b32)) 3 rfl rfl kr (all32_one _) sd sd rfl rfl rfl rfl ?_)
  refine L_nil ?_
  refine lR ?_
  refine lM ?_
  refine lO (pr_add (na_i64 (a := k) (b := 1) sd) rfl rfl rfl) ?_
  refine lS ?_
  refine L_nil ?_
  exact T_again (k + 1) pN pN (sc rfl (sc rfl (sc rfl sn))) [3, 0] ⟨by decide, rfl⟩
 have hc_3 := of_decide_eq_false hc_3
 refine T_exit rfl ?_
 obtain rfl : 4 = k := by omega
 refine lT ?_
 refine lQ (ld_agg (ds := ((dig 32 40 (redk v 4)).map b32)) 1 rfl agg_all Tryz.underlying117 rfl (fwz (n := 40) kr sd) rfl rfl) ?_
 refine L_op rfl (op_sto (n := 40) (vs := ((dig 32 40 (redk v 4)).map b32)) 0 rfl rfl kr (all32_one _) kr sd rfl rfl rfl rfl ?_)
 refine L_nil ?_
 refine T_ret ?_
 exact T_fin () qN (resb 0 rfl rfl rfl Tryz.underlying117 rfl (fwz (n := 40) kr sd)) [] ⟨by decide, rfl⟩ rfl
theorem least_add (A : Nat) (h : A < 256 ^ 40) : vw ((dig 32 40 A).set 0 (ath (dig 32 40 A) 0 + 5#32)) = A + 5 ∧ Bd 512 ((dig 32 40 A).set 0 (ath (dig 32 40 A) 0 + 5#32)) ∧ ((dig 32 40 A).set 0 (ath (dig 32 40 A) 0 + 5#32)).length = 40 := by
  have h0 := dig_bd 40 A 0
  have e5 : (5#32).toNat = 5 := rfl
  refine ⟨?_, bi_bd (bi_step (bi_zero 40 A) (by rw [dig_len]; omega) _ (by decide)), by rw [List.length_set, dig_len]⟩
  rw [vw_add _ _ _ (by rw [dig_len]; omega) oM, vw_dig _ _ _ oM, Nat.mod_eq_of_lt h, e5]
theorem lt40_of130 {A : Nat} (h : A < 1361129467683753853853498429727072845824) : A < 256 ^ 40 := Nat.lt_trans h (Nat.lt_of_lt_of_le (by decide : 1361129467683753853853498429727072845824 < 256 ^ 17) (Nat.pow_le_pow_right oM oM))
theorem least_lo2 (A : Nat) (h : ath (dig 32 40 (A + 5)) 16 < 4#32) (hA : A < 1361129467683753853853498429727072845824) : A = A % polyP := least_lo A (BitVec.lt_def.1 h) hA
theorem least_hi2 (A : Nat) (h : ¬ ath (dig 32 40 (A + 5)) 16 < 4#32) (hA : A < 1361129467683753853853498429727072845824) : (dig 32 40 (A + 5)).set 16 (ath (dig 32 40 (A + 5)) 16 - 4#32) = dig 32 40 (A % polyP) := least_hi A (fun h2 => h (BitVec.lt_def.2 h2)) hA
set_option maxHeartbeats 4000000 in
theorem rleast_f (Ac : Nat) (w : World) (hO : HOK [] w) (hA : Ac < 1361129467683753853853498429727072845824) : Calls Tryz.prog 88 [(.agg ((dig 32 40 Ac).map b32).toArray)].toArray w (Ret (T := Unit) [] w (fun _ => True) (fun _ => (.agg ((dig 32 40 (Ac % polyP)).map b32).toArray)) (fun _ => [])) := by
 have hd0 := dig_len 32 40 Ac
 have hd1 := dig_len 32 40 (Ac + 5)
 have hd2 := dig_len 32 40 (Ac % polyP)
 refine enter (c := _) Tryz.func88 rfl [] _ [] (by rw [Tryz.ntmps88]; rfl) (own_rds hO rfl) ?_
 rw [Tryz.ntmps88]
 refine lE [(0, (.agg ((dig 32 40 Ac).map b32).toArray))] ?_
 refine lH [] [] ?_
 refine lT ?_
 refine L_op rfl (op_box (zs := ((dig 32 40 Ac).map b32)) rfl rfl rfl rfl rfl (fun g1 => ?_))
 refine L_op rfl (op_alloc (z := .agg ((List.replicate 40 0#32).map b32).toArray) (zs := ((List.replicate 40 0#32).map b32)) kr rfl rfl rfl rfl (fun g2 => ?_))
 refine lN ?_
 refine lQ (ld_agg (ds := ((dig 32 40 Ac).map b32)) 1 rfl agg_all Tryz.underlying117 rfl (fwz (n := 40) kr sd) rfl rfl) ?_
 refine L_op rfl (op_alloc (z := .agg ((List.replicate 40 0#32).map b32).toArray) (zs := ((List.replicate 40 0#32).map b32)) kr rfl rfl rfl rfl (fun g3 => ?_))
 refine L_op rfl (op_sto (n := 40) (vs := ((dig 32 40 Ac).map b32)) 0 rfl rfl kr (all32_one _) kr sd rfl rfl rfl rfl ?_)
 refine lN ?_
 refine lO (pr_ixa (j := 0) (m' := 0) sd oM Tryz.underlying117 (z := 1) kr rfl rfl rfl) ?_
 refine lQ (ld_blk 0 rfl (get32 sd) Tryz.underlying61 rfl rfl rfl) ?_
 refine lO (pr_add (add32 _ (5#32)) rfl rfl rfl) ?_
 refine lO (pr_ixa (j := 0) (m' := 0) sd oM Tryz.underlying117 (z := 1) kr rfl rfl rfl) ?_
 refine L_op rfl (op_store (vs := [(b32 ((ath (dig 32 40 Ac) 0) + 5#32))]) (cs' := ((List.set (dig 32 40 Ac) 0 ((ath (dig 32 40 Ac) 0) + 5#32)).map b32)) 0 rfl rfl kr (one_one rfl) (stl sd) (splice_map (f := b32) sd) rfl rfl rfl rfl ?_)
 refine lN ?_
 refine lQ (ld_agg (ds := ((List.set (dig 32 40 Ac) 0 ((ath (dig 32 40 Ac) 0) + 5#32)).map b32)) 0 rfl agg_all Tryz.underlying117 rfl (fwz (n := 40) kr sd) rfl rfl) ?_
 refine L_op rfl (op_cn (fun w hw => rcarry_f (List.set (dig 32 40 Ac) 0 ((ath (dig 32 40 Ac) 0) + 5#32)) 512 w (hok_nil w) (least_add Ac (lt40_of130 hA)).2.2 (least_add Ac (lt40_of130 hA)).2.1 sd) (enters_of Tryz.func86 kr rfl) rfl rfl rfl rfl rfl (fun t4 q5 => ?_))
 refine T_slot 10 _ (.agg ((dig 32 40 (Ac + 5)).map b32).toArray) rfl (by rw [(least_add Ac (lt40_of130 hA)).1]) ?_
 refine L_op rfl (op_sto (n := 40) (vs := ((dig 32 40 (Ac + 5)).map b32)) 0 rfl rfl kr (all32_one _) sd sd rfl rfl rfl rfl ?_)
 refine L_nil ?_
 refine T_seq ?_
 refine lT ?_
 refine lO (pr_ixa (j := 16) (m' := 16) sd oM Tryz.underlying117 (z := 1) kr rfl rfl rfl) ?_
 refine lQ (ld_blk 0 rfl (get32 sd) Tryz.underlying61 rfl rfl rfl) ?_
 refine lO (pr_cmp (bo := .lss) (cm_lt32 (ath (dig 32 40 (Ac + 5)) 16) (4#32)) rfl rfl rfl rfl) ?_
 refine L_nil ?_
 refine T_cond (decide ((ath (dig 32 40 (Ac + 5)) 16) < 4#32)) rfl (fun hc_6 => ?_) (fun hc_6 => ?_)
 ·have hc_6 := of_decide_eq_true hc_6
  refine lT ?_
  refine lQ (ld_agg (ds := ((dig 32 40 Ac).map b32)) 2 rfl agg_all Tryz.underlying117 rfl (fwz (n := 40) kr sd) rfl rfl) ?_
  refine L_op rfl (op_sto (n := 40) (vs := ((dig 32 40 Ac).map b32)) 1 rfl rfl kr (all32_one _) kr sd rfl rfl rfl rfl ?_)
  refine L_nil ?_
  refine T_ret ?_
  refine T_as 0 _ (.blk g2 117 ((dig 32 40 (Ac % polyP)).map b32)) rfl (by rw [← least_lo2 Ac aS hA]) ?_
  exact T_fin () qN (resb 0 rfl rfl rfl Tryz.underlying117 rfl (fwz (n := 40) kr sd)) [] ⟨by decide, rfl⟩ rfl
 have hc_6 := of_decide_eq_false hc_6
 refine T_skip ?_
 refine lT ?_
 refine lO (pr_ixa (j := 16) (m' := 16) sd oM Tryz.underlying117 (z := 1) kr rfl rfl rfl) ?_
 refine lQ (ld_blk 0 rfl (get32 sd) Tryz.underlying61 rfl rfl rfl) ?_
 refine lO (pr_sub (sub32 _ (4#32)) rfl rfl rfl) ?_
 refine lO (pr_ixa (j := 16) (m' := 16) sd oM Tryz.underlying117 (z := 1) kr rfl rfl rfl) ?_
 refine L_op rfl (op_store (vs := [(b32 ((ath (dig 32 40 (Ac + 5)) 16) - 4#32))]) (cs' := ((List.set (dig 32 40 (Ac + 5)) 16 ((ath (dig 32 40 (Ac + 5)) 16) - 4#32)).map b32)) 0 rfl rfl kr (one_one rfl) (stl sd) (splice_map (f := b32) sd) rfl rfl rfl rfl ?_)
 refine lN ?_
 refine lQ (ld_agg (ds := ((List.set (dig 32 40 (Ac + 5)) 16 ((ath (dig 32 40 (Ac + 5)) 16) - 4#32)).map b32)) 0 rfl agg_all Tryz.underlying117 rfl (fwz (n := 40) kr sd) rfl rfl) ?_
 refine L_op rfl (op_sto (n := 40) (vs := ((List.set (dig 32 40 (Ac + 5)) 16 ((ath (dig 32 40 (Ac + 5)) 16) - 4#32)).map b32)) 1 rfl rfl kr (all32_one _) kr sd rfl rfl rfl rfl ?_)
 refine L_nil ?_
 refine T_ret ?_
 refine T_as 0 _ (.blk g2 117 ((dig 32 40 (Ac % polyP)).map b32)) rfl (by rw [least_hi2 Ac aS hA]) ?_
 exact T_fin () qN (resb 0 rfl rfl rfl Tryz.underlying117 rfl (fwz (n := 40) kr sd)) [] ⟨by decide, rfl⟩ rfl
theorem ad_len {A : Nat} {b : List (BitVec 8)} {i : Nat} {xs : List (BitVec 32)} (h : Ad A b i xs) : xs.length = 40 := by unfold Ad at h; exact h.1
theorem dig_zero40 : List.replicate 40 0#32 = dig 32 40 0 := ext_ath (by rw [dig_len, List.length_replicate]) (fun j hj => by
  rw [List.length_replicate] at hj
  rw [dig_at _ _ _ _ hj, Nat.zero_div]
  exact ath_repz 40 j)
theorem mu_len {V R i k : Nat} {xs : List (BitVec 32)} (h : Mu V R i k xs) : xs.length = 40 := by unfold Mu at h; exact h.1
theorem pblk_at (t : List (BitVec 8)) (k i : Nat) (h : i < 16) : ath t (16 * k + i) = ath (pblk t k) i := by
  unfold pblk; rw [ath_take _ _ _ h, ath_drop]
theorem pblk_len (t : List (BitVec 8)) (k n : Nat) (h : t.length = n) : (pblk t k).length = min 16 (n - 16 * k) := by unfold pblk; simp [h]
theorem pacc_end (key t : List (BitVec 8)) (A k n : Nat) (h : t.length = n) (hA : A % polyP = pacc (pr key) t k) (h1 : n ≤ 16 * k) (h2 : 16 * k < n + 16) : dig 8 16 (A % polyP + ps key) = ptag key t :=
  ptag_of key t _ (by rw [hA]; congr 1; omega)
theorem vlt (A : Nat) (b : List (BitVec 8)) (hA : A < 1361129467683753853853498429727072845824) (hb : b.length ≤ 16) : A + pv b < 2 ^ 131 ∧ A + pv b < 256 ^ 18 ∧ A + pv b < 256 ^ 40 := by
  have h1 := pv_lt b hb
  have h2 : (2 : Nat) ^ 131 = 2722258935367507707706996859454145691648 := rfl
  have h3 : (2 : Nat) ^ 129 = 680564733841876926926749214863536422912 := rfl
  rw [h3] at h1
  have h4 : A + pv b < 2 ^ 131 := by rw [h2]; omega
  have h5 : A + pv b < 256 ^ 18 := Nat.lt_trans h4 (by decide)
  exact ⟨h4, h5, Nat.lt_of_lt_of_le h5 (Nat.pow_le_pow_right oM oM)⟩
theorem key_at (key : List (BitVec 8)) (i : Nat) (h : i < 16) : ath key (16 + i) = ath (List.take 16 (List.drop 16 key)) i := by rw [ath_take _ _ _ h, ath_drop]
theorem ad_all {A : Nat} {b : List (BitVec 8)} {i : Nat} {xs : List (BitVec 32)} (h : Ad A b i xs) (hi : b.length ≤ i) : vw xs = A + vw b ∧ Bd 512 xs := by
  unfold Ad at h
  obtain ⟨h1, h2, h3⟩ := h
  rw [List.take_of_length_le hi] at h2
  exact ⟨h2, bi_bd h3⟩
theorem mult_lt (V R : Nat) (hV : V < 2 ^ 131) (hR : R < 2 ^ 124) : V * R < 2 ^ 256 := Nat.lt_trans (Nat.mul_lt_mul'' hV hR) (by decide)
theorem modP_lt (A : Nat) : A % polyP < 256 ^ 40 := lt40_of130 (Nat.lt_trans (Nat.mod_lt _ (by rw [polyP_eq]; decide)) (by rw [polyP_eq]; decide))
set_option maxHeartbeats 4000000 in
theorem prtag_f (key : List (BitVec 8)) (ts : List (BitVec 8)) (A : Option Addr) (n : Nat) (c : Nat) (w : World) (hO : HOK [.rd A 1 n c (ts.map b8)] w) (hkl : key.length = 32) (hx : ts.length = n) (hn : n ≤ 1000000000) : Calls Tryz.prog 62 [(.agg (key.map b8).toArray), (.slice A n c)].toArray w (Ret (T := Unit) [] w (fun _ => True) (fun _ => (.agg ((ptag key ts).map b8).toArray)) (fun _ => [])) := by
 have hdl := fun v => dig_len 32 40 v
 have hcl := clampb_len key
 have hpl := ptag_len key ts
 have hkt : (List.take 16 (List.drop 16 key)).length = 16 := by simp; omega
 have hF : Wid Fence.wide := wid_wide
 refine enter (c := _) Tryz.func62 rfl [] _ [.rd A 1 n c (ts.map b8)] (by rw [Tryz.ntmps62]; rfl) (own_rds hO rfl) ?_
 rw [Tryz.ntmps62]
 refine lE [(0, (.agg (key.map b8).toArray)), (1, (.slice A n c))] ?_
 refine lH [0] [.rd A 1 n c (ts.map b8)] ?_
 refine lT ?_
 refine L_op rfl (op_box (zs := (key.map b8)) rfl rfl rfl rfl rfl (fun g1 => ?_))
 refine L_op rfl (op_alloc (z := .agg ((List.replicate 16 0#8).map b8).toArray) (zs := ((List.replicate 16 0#8).map b8)) kr rfl rfl rfl rfl (fun g2 => ?_))
 refine lN ?_
 refine lQ (ld_agg (ds := (key.map b8)) 1 rfl agg_all Tryz.underlying22 rfl (fwz (n := 32) kr sd) rfl rfl) ?_
 refine L_op rfl (op_cn (fun w hw => rclamp_f key w (hok_nil w) sd) (enters_of Tryz.func85 kr rfl) rfl rfl rfl rfl rfl (fun t3 q4 => ?_))
 refine L_op rfl (op_alloc (z := .agg ((List.replicate 16 0#8).map b8).toArray) (zs := ((List.replicate 16 0#8).map b8)) kr rfl rfl rfl rfl (fun g5 => ?_))
 refine L_op rfl (op_sto (n := 16) (vs := ((clampb key).map b8)) 0 rfl rfl kr (all8_one _) kr sd rfl rfl rfl rfl ?_)
 refine lN ?_
 refine L_op rfl (op_alloc (z := .agg ((List.replicate 40 0#32).map b32).toArray) (zs := ((List.replicate 40 0#32).map b32)) kr rfl rfl rfl rfl (fun g6 => ?_))
 refine L_nil ?_
 refine T_seq ?_
 refine lT ?_
 refine lS ?_
 refine L_nil ?_
 refine T_block ?_
 refine T_slot 7 (.int .i64 ((0 : Nat) : Int)) (.int .i64 ((16 * 0 : Nat) : Int)) rfl (by rfl) ?_
 refine T_as 0 _ (.blk g6 117 ((dig 32 40 0).map b32)) rfl (by rw [dig_zero40]) ?_
 refine T_loop (T := Nat × Nat) (fun ⟨k, Ac⟩ => Ac < 1361129467683753853853498429727072845824 ∧ Ac % polyP = pacc (pr key) ts k ∧ 16 * k < n + 16) (fun ⟨k, Ac⟩ => [(1, (.slice A n c)), (2, (.pointer (some ⟨g1, 0, none⟩))), (4, (.pointer (some ⟨g2, 0, none⟩))), (5, (.pointer (some ⟨g5, 0, none⟩))), (6, (.pointer (some ⟨g6, 0, none⟩))), (7, (.int .i64 ((16 * k : Nat) : Int)))]) (fun ⟨k, Ac⟩ => [.blk g6 117 ((dig 32 40 Ac).map b32), .blk g5 62 ((clampb key).map b8), .blk g2 62 ((List.replicate 16 0#8).map b8), .blk g1 22 (key.map b8), .rd A 1 n c (ts.map b8)]) (fun ⟨k, Ac⟩ => n + 16 - 16 * k) (0, 0) (⟨by decide, by rw [pacc_zero]; rfl, by omega⟩) (sc rfl (sc rfl (sc rfl (sc rfl (sc rfl (sc rfl sn)))))) [0, 1, 2, 3, 4] ⟨by decide, rfl⟩ ?_
 rintro ⟨k, Ac⟩ hp
 have hp : Ac < 1361129467683753853853498429727072845824 ∧ Ac % polyP = pacc (pr key) ts k ∧ 16 * k < n + 16 := hp
 have hp0 := hp
 have hd0 := hdl Ac
 refine lE [(1, (.slice A n c)), (2, (.pointer (some ⟨g1, 0, none⟩))), (4, (.pointer (some ⟨g2, 0, none⟩))), (5, (.pointer (some ⟨g5, 0, none⟩))), (6, (.pointer (some ⟨g6, 0, none⟩))), (7, (.int .i64 ((16 * k : Nat) : Int)))] ?_
 refine lH [0, 1, 2, 3, 4] [.blk g6 117 ((dig 32 40 Ac).map b32), .blk g5 62 ((clampb key).map b8), .blk g2 62 ((List.replicate 16 0#8).map b8), .blk g1 22 (key.map b8), .rd A 1 n c (ts.map b8)] ?_
 refine T_seq ?_
 refine lT ?_
 refine lM ?_
 refine lM ?_
 refine lO (pr_len_sl Tryz.underlying27 rfl rfl) ?_
 refine lO (pr_cmp (bo := .lss) (nc_lt (a := 16 * k) (b := n)) rfl rfl rfl rfl) ?_
 refine L_nil ?_
 refine T_cond (decide (16 * k < n)) rfl (fun hc_7 => ?_) (fun hc_7 => ?_)
 ·have hc_7 := of_decide_eq_true hc_7
  refine T_skip ?_
  refine T_seq ?_
  refine T_block ?_
  refine lT ?_
  refine lM ?_
  refine lO (pr_len_sl Tryz.underlying27 rfl rfl) ?_
  refine lM ?_
  refine lO (pr_sub (ns_i64 (a := n) (b := 16 * k) sd sd) rfl rfl rfl) ?_
  refine lO (pr_as (pr_min rfl rfl rfl) (nmin (k := .i64) (a := 16) (b := n - (16 * k)))) ?_
  refine lS ?_
  refine L_nil ?_
  obtain ⟨nb, hn_nb⟩ : ∃ x : Nat, min 16 (n - (16 * k)) = x := ⟨_, rfl⟩
  have hbl : (pblk ts k).length = nb := by rw [pblk_len ts k n hx]; exact hn_nb
  have hvl := vlt Ac (pblk ts k) hp.1 (pblk_len_le ts k)
  have hnb : nb ≤ 16 := by omega
  have hnb1 : 16 * k + nb ≤ n := by omega
  refine T_slot 8 (.int .i64 ((min 16 (n - (16 * k)) : Nat) : Int)) (.int .i64 ((nb : Nat) : Int)) rfl (by rw [hn_nb]) ?_
  refine T_seq ?_
  refine lT ?_
  refine lS ?_
  refine L_nil ?_
  refine T_block ?_
  refine T_loop (T := Nat × List (BitVec 32)) (fun ⟨i, xs⟩ => i ≤ nb ∧ Ad Ac (pblk ts k) i xs) (fun ⟨i, xs⟩ => [(1, (.slice A n c)), (2, (.pointer (some ⟨g1, 0, none⟩))), (4, (.pointer (some ⟨g2, 0, none⟩))), (5, (.pointer (some ⟨g5, 0, none⟩))), (6, (.pointer (some ⟨g6, 0, none⟩))), (7, (.int .i64 ((16 * k : Nat) : Int))), (8, (.int .i64 ((nb : Nat) : Int))), (9, (.int .i64 ((i : Nat) : Int)))]) (fun ⟨i, xs⟩ => [.blk g6 117 (xs.map b32), .blk g5 62 ((clampb key).map b8), .blk g2 62 ((List.replicate 16 0#8).map b8), .blk g1 22 (key.map b8), .rd A 1 n c (ts.map b8)]) (fun ⟨i, xs⟩ => nb - i) (0, dig 32 40 Ac) (⟨by omega, ad_zero _ _ (lt40_of130 hp.1)⟩) (sc rfl (sc rfl (sc rfl (sc rfl (sc rfl (sc rfl (sc rfl (sc rfl sn)))))))) [0, 1, 2, 3, 4] ⟨by decide, rfl⟩ ?_
  rintro ⟨i, xs⟩ hp
  have hp : i ≤ nb ∧ Ad Ac (pblk ts k) i xs := hp
  have hxl := ad_len hp.2
  refine lE [(1, (.slice A n c)), (2, (.pointer (some ⟨g1, 0, none⟩))), (4, (.pointer (some ⟨g2, 0, none⟩))), (5, (.pointer (some ⟨g5, 0, none⟩))), (6, (.pointer (some ⟨g6, 0, none⟩))), (7, (.int .i64 ((16 * k : Nat) : Int))), (8, (.int .i64 ((nb : Nat) : Int))), (9, (.int .i64 ((i : Nat) : Int)))] ?_
  refine lH [0, 1, 2, 3, 4] [.blk g6 117 (xs.map b32), .blk g5 62 ((clampb key).map b8), .blk g2 62 ((List.replicate 16 0#8).map b8), .blk g1 22 (key.map b8), .rd A 1 n c (ts.map b8)] ?_
  refine T_seq ?_
  refine lT ?_
  refine lM ?_
  refine lM ?_
  refine lO (pr_cmp (bo := .lss) (nc_lt (a := i) (b := nb)) rfl rfl rfl rfl) ?_
  refine L_nil ?_
  refine T_cond (decide (i < nb)) rfl (fun hc_8 => ?_) (fun hc_8 => ?_)
  ·have hc_8 := of_decide_eq_true hc_8
   refine T_skip ?_
   refine T_seq ?_
   refine T_block ?_
   refine T_regD [.blk g6 117 (xs.map b32), .blk g5 62 ((clampb key).map b8), .blk g2 62 ((List.replicate 16 0#8).map b8), .blk g1 22 (key.map b8), .rd A 1 n c (ts.map b8)] 13 14 #[false, false, false, false, false, false, false, false, false, false, false, false, false, false] hF kr kr ?_
   refine D_pure (i := 0) [0, 1, 2, 3, 4] rfl kr rfl (pr_move rfl rfl) (.inr rfl) rfl rfl ?_
   refine D_pure (i := 1) [0, 1, 2, 3, 4] rfl kr rfl (pr_move rfl rfl) (.inr rfl) rfl rfl ?_
   refine D_pure (i := 2) [0, 1, 2, 3, 4] rfl kr rfl (pr_ixa (j := i) (m' := i) sd oM Tryz.underlying117 (z := 1) kr rfl rfl rfl) (.inr rfl) rfl rfl ?_
   refine D_pure (i := 4) [0, 1, 2, 3, 4] rfl kr rfl (pr_move rfl rfl) (.inr rfl) rfl rfl ?_
   refine D_pure (i := 5) [0, 1, 2, 3, 4] rfl kr rfl (pr_move rfl rfl) (.inr rfl) rfl rfl ?_
   refine D_pure (i := 6) [0, 1, 2, 3, 4] rfl kr rfl (pr_move rfl rfl) (.inr rfl) rfl rfl ?_
   refine D_pure (i := 7) [0, 1, 2, 3, 4] rfl kr rfl (pr_add (na_i64 (a := 16 * k) (b := i) sd) rfl rfl rfl) (.inr rfl) rfl rfl ?_
   refine D_pure (i := 8) [0, 1, 2, 3, 4] rfl kr rfl (pr_ixs1 (j := 16 * k + i) (src_none (src_rd 4 rfl)) sd Tryz.underlying27 kr rfl rfl rfl) (.inr rfl) rfl rfl ?_
   refine D_take (i := 3) [0, 1, 2, 3, 4] rfl kr rfl (ld_blk 0 rfl (get32 sd) Tryz.underlying61 rfl rfl rfl) rfl rfl rfl ?_
   refine D_take (i := 9) [0, 1, 2, 3, 4] rfl kr rfl (ld_src (m := 16 * k + i) (src_rd 4 rfl) (get8 sd) Tryz.underlying5 rfl rfl rfl) rfl rfl rfl ?_
   refine D_pure (i := 10) [0, 1, 2, 3, 4] rfl kr rfl (pr_cv (cv8_32 _) Tryz.underlying5 Tryz.underlying61 rfl rfl) (.inr rfl) rfl rfl ?_
   refine D_pure (i := 11) [0, 1, 2, 3, 4] rfl kr rfl (pr_add (add32 _ _) rfl rfl rfl) (.inr rfl) rfl rfl ?_
   refine D_pure (i := 12) [0, 1, 2, 3, 4] rfl kr rfl (pr_ixa (j := i) (m' := i) sd oM Tryz.underlying117 (z := 1) kr rfl rfl rfl) (.inr rfl) rfl rfl ?_
   refine D_one 13 _ rfl kr rfl (op_store (vs := [(b32 ((ath xs i) + ((ath ts (16 * k + i)).setWidth 32)))]) (cs' := ((List.set xs i ((ath xs i) + ((ath ts (16 * k + i)).setWidth 32))).map b32)) 0 rfl rfl kr (one_one rfl) (stl sd) (splice_map (f := b32) sd) rfl rfl rfl rfl ?_)
   refine D_past kr ?_
   refine D_done kr ?_
   refine lR ?_
   refine lM ?_
   refine lO (pr_add (na_i64 (a := i) (b := 1) sd) rfl rfl rfl) ?_
   refine lS ?_
   refine L_nil ?_
   exact T_again (i + 1, (List.set xs i ((ath xs i) + ((ath ts (16 * k + i)).setWidth 32)))) (⟨by omega, ad_step hp.2 oM oM _ (pblk_at _ _ _ oM)⟩) pN (sc rfl (sc rfl (sc rfl (sc rfl (sc rfl (sc rfl (sc rfl (sc rfl sn)))))))) [0, 1, 2, 3, 4] ⟨by decide, rfl⟩
  have hc_8 := of_decide_eq_false hc_8
  refine T_exit rfl ?_
  obtain rfl : nb = i := by omega
  have hadn := hp.2
  have hones := (ad_one hadn hbl oM).1
  refine lT ?_
  refine lM ?_
  refine lM ?_
  refine lO (pr_ixa (j := nb) (m' := nb) sd oM Tryz.underlying117 (z := 1) kr rfl rfl rfl) ?_
  refine lQ (ld_blk 0 rfl (get32 sd) Tryz.underlying61 rfl rfl rfl) ?_
  refine lO (pr_add (add32 _ (1#32)) rfl rfl rfl) ?_
  refine lO (pr_ixa (j := nb) (m' := nb) sd oM Tryz.underlying117 (z := 1) kr rfl rfl rfl) ?_
  refine L_op rfl (op_store (vs := [(b32 ((ath xs nb) + 1#32))]) (cs' := ((List.set xs nb ((ath xs nb) + 1#32)).map b32)) 0 rfl rfl kr (one_one rfl) (stl sd) (splice_map (f := b32) sd) rfl rfl rfl rfl ?_)
  refine lN ?_
  refine lQ (ld_agg (ds := ((List.set xs nb ((ath xs nb) + 1#32)).map b32)) 0 rfl agg_all Tryz.underlying117 rfl (fwz (n := 40) kr sd) rfl rfl) ?_
  refine L_op rfl (op_cn (fun w hw => rcarry_f (List.set xs nb ((ath xs nb) + 1#32)) 512 w (hok_nil w) (ad_one aS hbl oM).1 (ad_one aS hbl oM).2.2 sd) (enters_of Tryz.func86 kr rfl) rfl rfl rfl rfl rfl (fun t9 q10 => ?_))
  refine T_slot 54 _ (.agg ((dig 32 40 (Ac + pv (pblk ts k))).map b32).toArray) rfl (by rw [(ad_one aS hbl oM).2.1]) ?_
  refine L_op rfl (op_sto (n := 40) (vs := ((dig 32 40 (Ac + pv (pblk ts k))).map b32)) 0 rfl rfl kr (all32_one _) sd sd rfl rfl rfl rfl ?_)
  refine lN ?_
  refine L_op rfl (op_alloc (z := .agg ((List.replicate 40 0#32).map b32).toArray) (zs := ((List.replicate 40 0#32).map b32)) kr rfl rfl rfl rfl (fun g11 => ?_))
  refine L_nil ?_
  refine T_seq ?_
  refine lT ?_
  refine lS ?_
  refine L_nil ?_
  refine T_block ?_
  refine T_loop (T := Nat × List (BitVec 32)) (fun ⟨i, zs⟩ => i ≤ 18 ∧ Mu (Ac + pv (pblk ts k)) (pr key) i 0 zs) (fun ⟨i, zs⟩ => [(1, (.slice A n c)), (2, (.pointer (some ⟨g1, 0, none⟩))), (4, (.pointer (some ⟨g2, 0, none⟩))), (5, (.pointer (some ⟨g5, 0, none⟩))), (6, (.pointer (some ⟨g6, 0, none⟩))), (7, (.int .i64 ((16 * k : Nat) : Int))), (10, (.pointer (some ⟨g11, 0, none⟩))), (11, (.int .i64 ((i : Nat) : Int)))]) (fun ⟨i, zs⟩ => [.blk g11 117 (zs.map b32), .blk g6 117 ((dig 32 40 (Ac + pv (pblk ts k))).map b32), .blk g5 62 ((clampb key).map b8), .blk g2 62 ((List.replicate 16 0#8).map b8), .blk g1 22 (key.map b8), .rd A 1 n c (ts.map b8)]) (fun ⟨i, zs⟩ => 18 - i) (0, List.replicate 40 0#32) (⟨by omega, mu_zero _ _⟩) (sc rfl (sc rfl (sc rfl (sc rfl (sc rfl (sc rfl (sc rfl (sc rfl sn)))))))) [0, 1, 2, 3, 4, 5] ⟨by decide, rfl⟩ ?_
  rintro ⟨i, zs⟩ hp
  have hp : i ≤ 18 ∧ Mu (Ac + pv (pblk ts k)) (pr key) i 0 zs := hp
  have hzl := mu_len hp.2
  have hd1 := hdl (Ac + pv (pblk ts k))
  refine lE [(1, (.slice A n c)), (2, (.pointer (some ⟨g1, 0, none⟩))), (4, (.pointer (some ⟨g2, 0, none⟩))), (5, (.pointer (some ⟨g5, 0, none⟩))), (6, (.pointer (some ⟨g6, 0, none⟩))), (7, (.int .i64 ((16 * k : Nat) : Int))), (10, (.pointer (some ⟨g11, 0, none⟩))), (11, (.int .i64 ((i : Nat) : Int)))] ?_
  refine lH [0, 1, 2, 3, 4, 5] [.blk g11 117 (zs.map b32), .blk g6 117 ((dig 32 40 (Ac + pv (pblk ts k))).map b32), .blk g5 62 ((clampb key).map b8), .blk g2 62 ((List.replicate 16 0#8).map b8), .blk g1 22 (key.map b8), .rd A 1 n c (ts.map b8)] ?_
  refine T_seq ?_
  refine lT ?_
  refine lM ?_
  refine lO (pr_cmp (bo := .lss) (nc_lt (a := i) (b := 18)) rfl rfl rfl rfl) ?_
  refine L_nil ?_
  refine T_cond (decide (i < 18)) rfl (fun hc_12 => ?_) (fun hc_12 => ?_)
  ·have hc_12 := of_decide_eq_true hc_12
   refine T_skip ?_
   refine T_seq ?_
   refine T_block ?_
   refine lT ?_
   refine lS ?_
   refine L_nil ?_
   refine T_block ?_
   refine T_loop (T := Nat × List (BitVec 32)) (fun ⟨j, ys⟩ => j ≤ 16 ∧ Mu (Ac + pv (pblk ts k)) (pr key) i j ys) (fun ⟨j, ys⟩ => [(1, (.slice A n c)), (2, (.pointer (some ⟨g1, 0, none⟩))), (4, (.pointer (some ⟨g2, 0, none⟩))), (5, (.pointer (some ⟨g5, 0, none⟩))), (6, (.pointer (some ⟨g6, 0, none⟩))), (7, (.int .i64 ((16 * k : Nat) : Int))), (10, (.pointer (some ⟨g11, 0, none⟩))), (11, (.int .i64 ((i : Nat) : Int))), (12, (.int .i64 ((j : Nat) : Int)))]) (fun ⟨j, ys⟩ => [.blk g11 117 (ys.map b32), .blk g6 117 ((dig 32 40 (Ac + pv (pblk ts k))).map b32), .blk g5 62 ((clampb key).map b8), .blk g2 62 ((List.replicate 16 0#8).map b8), .blk g1 22 (key.map b8), .rd A 1 n c (ts.map b8)]) (fun ⟨j, ys⟩ => 16 - j) (0, zs) (⟨by omega, hp.2⟩) (sc rfl (sc rfl (sc rfl (sc rfl (sc rfl (sc rfl (sc rfl (sc rfl (sc rfl sn))))))))) [0, 1, 2, 3, 4, 5] ⟨by decide, rfl⟩ ?_
   rintro ⟨j, ys⟩ hp
   have hp : j ≤ 16 ∧ Mu (Ac + pv (pblk ts k)) (pr key) i j ys := hp
   have hyl := mu_len hp.2
   refine lE [(1, (.slice A n c)), (2, (.pointer (some ⟨g1, 0, none⟩))), (4, (.pointer (some ⟨g2, 0, none⟩))), (5, (.pointer (some ⟨g5, 0, none⟩))), (6, (.pointer (some ⟨g6, 0, none⟩))), (7, (.int .i64 ((16 * k : Nat) : Int))), (10, (.pointer (some ⟨g11, 0, none⟩))), (11, (.int .i64 ((i : Nat) : Int))), (12, (.int .i64 ((j : Nat) : Int)))] ?_
   refine lH [0, 1, 2, 3, 4, 5] [.blk g11 117 (ys.map b32), .blk g6 117 ((dig 32 40 (Ac + pv (pblk ts k))).map b32), .blk g5 62 ((clampb key).map b8), .blk g2 62 ((List.replicate 16 0#8).map b8), .blk g1 22 (key.map b8), .rd A 1 n c (ts.map b8)] ?_
   refine T_seq ?_
   refine lT ?_
   refine lM ?_
   refine lO (pr_cmp (bo := .lss) (nc_lt (a := j) (b := 16)) rfl rfl rfl rfl) ?_
   refine L_nil ?_
   refine T_cond (decide (j < 16)) rfl (fun hc_13 => ?_) (fun hc_13 => ?_)
   ·have hc_13 := of_decide_eq_true hc_13
    refine T_skip ?_
    refine T_seq ?_
    refine T_block ?_
    refine T_regD [.blk g11 117 (ys.map b32), .blk g6 117 ((dig 32 40 (Ac + pv (pblk ts k))).map b32), .blk g5 62 ((clampb key).map b8), .blk g2 62 ((List.replicate 16 0#8).map b8), .blk g1 22 (key.map b8), .rd A 1 n c (ts.map b8)] 18 19 #[false, false, false, false, false, false, false, false, false, false, false, false, false, false, false, false, false, false, false] hF kr kr ?_
    refine D_pure (i := 0) [0, 1, 2, 3, 4, 5] rfl kr rfl (pr_move rfl rfl) (.inr rfl) rfl rfl ?_
    refine D_pure (i := 1) [0, 1, 2, 3, 4, 5] rfl kr rfl (pr_move rfl rfl) (.inr rfl) rfl rfl ?_
    refine D_pure (i := 2) [0, 1, 2, 3, 4, 5] rfl kr rfl (pr_add (na_i64 (a := i) (b := j) sd) rfl rfl rfl) (.inr rfl) rfl rfl ?_
    refine D_pure (i := 3) [0, 1, 2, 3, 4, 5] rfl kr rfl (pr_move rfl rfl) (.inr rfl) rfl rfl ?_
    refine D_pure (i := 4) [0, 1, 2, 3, 4, 5] rfl kr rfl (pr_move rfl rfl) (.inr rfl) rfl rfl ?_
    refine D_pure (i := 5) [0, 1, 2, 3, 4, 5] rfl kr rfl (pr_add (na_i64 (a := i) (b := j) sd) rfl rfl rfl) (.inr rfl) rfl rfl ?_
    refine D_pure (i := 6) [0, 1, 2, 3, 4, 5] rfl kr rfl (pr_ixa (j := i + j) (m' := i + j) sd oM Tryz.underlying117 (z := 1) kr rfl rfl rfl) (.inr rfl) rfl rfl ?_
    refine D_pure (i := 8) [0, 1, 2, 3, 4, 5] rfl kr rfl (pr_move rfl rfl) (.inr rfl) rfl rfl ?_
    refine D_pure (i := 9) [0, 1, 2, 3, 4, 5] rfl kr rfl (pr_ixa (j := i) (m' := i) sd oM Tryz.underlying117 (z := 1) kr rfl rfl rfl) (.inr rfl) rfl rfl ?_
    refine D_pure (i := 11) [0, 1, 2, 3, 4, 5] rfl kr rfl (pr_move rfl rfl) (.inr rfl) rfl rfl ?_
    refine D_pure (i := 12) [0, 1, 2, 3, 4, 5] rfl kr rfl (pr_ixa (j := j) (m' := j) sd oM Tryz.underlying62 (z := 1) kr rfl rfl rfl) (.inr rfl) rfl rfl ?_
    refine D_take (i := 7) [0, 1, 2, 3, 4, 5] rfl kr rfl (ld_blk 0 rfl (get32 sd) Tryz.underlying61 rfl rfl rfl) rfl rfl rfl ?_
    refine D_take (i := 10) [0, 1, 2, 3, 4, 5] rfl kr rfl (ld_blk 1 rfl (get32 sd) Tryz.underlying61 rfl rfl rfl) rfl rfl rfl ?_
    refine D_take (i := 13) [0, 1, 2, 3, 4, 5] rfl kr rfl (ld_blk 2 rfl (get8 sd) Tryz.underlying5 rfl rfl rfl) rfl rfl rfl ?_
    refine D_pure (i := 14) [0, 1, 2, 3, 4, 5] rfl kr rfl (pr_cv (cv8_32 _) Tryz.underlying5 Tryz.underlying61 rfl rfl) (.inr rfl) rfl rfl ?_
    refine D_pure (i := 15) [0, 1, 2, 3, 4, 5] rfl kr rfl (pr_mul (mul32 _ _) rfl rfl rfl) (.inr rfl) rfl rfl ?_
    refine D_pure (i := 16) [0, 1, 2, 3, 4, 5] rfl kr rfl (pr_add (add32 _ _) rfl rfl rfl) (.inr rfl) rfl rfl ?_
    refine D_pure (i := 17) [0, 1, 2, 3, 4, 5] rfl kr rfl (pr_ixa (j := i + j) (m' := i + j) sd oM Tryz.underlying117 (z := 1) kr rfl rfl rfl) (.inr rfl) rfl rfl ?_
    refine D_one 18 _ rfl kr rfl (op_store (vs := [(b32 ((ath ys (i + j)) + ((ath (dig 32 40 (Ac + pv (pblk ts k))) i) * ((ath (clampb key) j).setWidth 32))))]) (cs' := ((List.set ys (i + j) ((ath ys (i + j)) + ((ath (dig 32 40 (Ac + pv (pblk ts k))) i) * ((ath (clampb key) j).setWidth 32)))).map b32)) 0 rfl rfl kr (one_one rfl) (stl sd) (splice_map (f := b32) sd) rfl rfl rfl rfl ?_)
    refine D_past kr ?_
    refine D_done kr ?_
    refine lR ?_
    refine lM ?_
    refine lO (pr_add (na_i64 (a := j) (b := 1) sd) rfl rfl rfl) ?_
    refine lS ?_
    refine L_nil ?_
    exact T_again (j + 1, (List.set ys (i + j) ((ath ys (i + j)) + ((ath (dig 32 40 (Ac + pv (pblk ts k))) i) * ((ath (clampb key) j).setWidth 32))))) (⟨by omega, mu_step hp.2 oM oM oM _ _ (dig_at_nat 32 40 _ i oM oM) (by rw [BitVec.toNat_setWidth, clampb_dig key j oM]; omega)⟩) pN (sc rfl (sc rfl (sc rfl (sc rfl (sc rfl (sc rfl (sc rfl (sc rfl (sc rfl sn))))))))) [0, 1, 2, 3, 4, 5] ⟨by decide, rfl⟩
   have hc_13 := of_decide_eq_false hc_13
   refine T_exit rfl ?_
   obtain rfl : 16 = j := by omega
   refine lR ?_
   refine lM ?_
   refine lO (pr_add (na_i64 (a := i) (b := 1) sd) rfl rfl rfl) ?_
   refine lS ?_
   refine L_nil ?_
   exact T_again (i + 1, ys) (⟨by omega, mu_row hp.2 (pr_lt16 key)⟩) pN (sc rfl (sc rfl (sc rfl (sc rfl (sc rfl (sc rfl (sc rfl (sc rfl sn)))))))) [0, 1, 2, 3, 4, 5] ⟨by decide, rfl⟩
  have hc_12 := of_decide_eq_false hc_12
  refine T_exit rfl ?_
  obtain rfl : 18 = i := by omega
  refine lR ?_
  refine lQ (ld_agg (ds := (zs.map b32)) 0 rfl agg_all Tryz.underlying117 rfl (fwz (n := 40) kr sd) rfl rfl) ?_
  refine L_op rfl (op_cn (fun w hw => rcarry_f zs 30000000 w (hok_nil w) (mu_len hp.2) (mu_all hp.2 rfl hvl.2.1).2 sd) (enters_of Tryz.func86 kr rfl) rfl rfl rfl rfl rfl (fun t14 q15 => ?_))
  refine T_slot 82 (.agg ((dig 32 40 (vw zs)).map b32).toArray) (.agg ((dig 32 40 ((Ac + pv (pblk ts k)) * pr key)).map b32).toArray) rfl (by rw [(mu_all hp.2 rfl hvl.2.1).1]) ?_
  refine L_op rfl (op_cn (fun w hw => rreduce_f ((Ac + pv (pblk ts k)) * pr key) w (hok_nil w) (mult_lt _ _ hvl.1 (pr_lt key))) (enters_of Tryz.func87 kr rfl) rfl rfl rfl rfl rfl (fun t16 q17 => ?_))
  refine L_op rfl (op_sto (n := 40) (vs := ((dig 32 40 (redk ((Ac + pv (pblk ts k)) * pr key) 4)).map b32)) 1 rfl rfl kr (all32_one _) sd sd rfl rfl rfl rfl ?_)
  refine L_nil ?_
  refine lR ?_
  refine lM ?_
  refine lO (pr_add (na_i64 (a := 16 * k) (b := 16) sd) rfl rfl rfl) ?_
  refine lS ?_
  refine L_nil ?_
  refine T_slot 7 (.int .i64 ((16 * k + 16 : Nat) : Int)) (.int .i64 ((16 * (k + 1) : Nat) : Int)) rfl (by congr 1) ?_
  exact T_again (k + 1, redk ((Ac + pv (pblk ts k)) * pr key) 4) (⟨(ref_piece _ _ _ rfl hvl.1 (pr_lt key)).1, ((ref_piece _ _ _ rfl hvl.1 (pr_lt key)).2).trans (pacc_next _ _ _ _ _ hp0.2.1 rfl), by omega⟩) (by dsimp only; omega) (sc rfl (sc rfl (sc rfl (sc rfl (sc rfl (sc rfl sn)))))) [0, 2, 3, 4, 5] ⟨by decide, rfl⟩
 have hc_7 := of_decide_eq_false hc_7
 refine T_exit rfl ?_
 refine lT ?_
 refine lQ (ld_agg (ds := ((dig 32 40 Ac).map b32)) 0 rfl agg_all Tryz.underlying117 rfl (fwz (n := 40) kr sd) rfl rfl) ?_
 refine L_op rfl (op_cn (fun w hw => rleast_f Ac w (hok_nil w) hp.1) (enters_of Tryz.func88 kr rfl) rfl rfl rfl rfl rfl (fun t18 q19 => ?_))
 refine L_op rfl (op_sto (n := 40) (vs := ((dig 32 40 (Ac % polyP)).map b32)) 0 rfl rfl kr (all32_one _) sd sd rfl rfl rfl rfl ?_)
 refine L_nil ?_
 refine T_seq ?_
 refine lT ?_
 refine lS ?_
 refine L_nil ?_
 refine T_block ?_
 refine T_loop (T := Nat × List (BitVec 32)) (fun ⟨i, us⟩ => i ≤ 16 ∧ Ad (Ac % polyP) (List.take 16 (List.drop 16 key)) i us) (fun ⟨i, us⟩ => [(2, (.pointer (some ⟨g1, 0, none⟩))), (4, (.pointer (some ⟨g2, 0, none⟩))), (6, (.pointer (some ⟨g6, 0, none⟩))), (13, (.int .i64 ((i : Nat) : Int)))]) (fun ⟨i, us⟩ => [.blk g6 117 (us.map b32), .blk g5 62 ((clampb key).map b8), .blk g2 62 ((List.replicate 16 0#8).map b8), .blk g1 22 (key.map b8), .rd A 1 n c (ts.map b8)]) (fun ⟨i, us⟩ => 16 - i) (0, dig 32 40 (Ac % polyP)) (⟨by omega, ad_zero _ _ (modP_lt _)⟩) (sc rfl (sc rfl (sc rfl (sc rfl sn)))) [0, 1, 2, 3, 4] ⟨by decide, rfl⟩ ?_
 rintro ⟨i, us⟩ hp
 have hp : i ≤ 16 ∧ Ad (Ac % polyP) (List.take 16 (List.drop 16 key)) i us := hp
 have hul := ad_len hp.2
 refine lE [(2, (.pointer (some ⟨g1, 0, none⟩))), (4, (.pointer (some ⟨g2, 0, none⟩))), (6, (.pointer (some ⟨g6, 0, none⟩))), (13, (.int .i64 ((i : Nat) : Int)))] ?_
 refine lH [0, 1, 2, 3, 4] [.blk g6 117 (us.map b32), .blk g5 62 ((clampb key).map b8), .blk g2 62 ((List.replicate 16 0#8).map b8), .blk g1 22 (key.map b8), .rd A 1 n c (ts.map b8)] ?_
 refine T_seq ?_
 refine lT ?_
 refine lM ?_
 refine lO (pr_cmp (bo := .lss) (nc_lt (a := i) (b := 16)) rfl rfl rfl rfl) ?_
 refine L_nil ?_
 refine T_cond (decide (i < 16)) rfl (fun hc_20 => ?_) (fun hc_20 => ?_)
 ·have hc_20 := of_decide_eq_true hc_20
  refine T_skip ?_
  refine T_seq ?_
  refine T_block ?_
  refine T_regD [.blk g6 117 (us.map b32), .blk g5 62 ((clampb key).map b8), .blk g2 62 ((List.replicate 16 0#8).map b8), .blk g1 22 (key.map b8), .rd A 1 n c (ts.map b8)] 11 12 #[false, false, false, false, false, false, false, false, false, false, false, false] hF kr kr ?_
  refine D_pure (i := 0) [0, 1, 2, 3, 4] rfl kr rfl (pr_move rfl rfl) (.inr rfl) rfl rfl ?_
  refine D_pure (i := 1) [0, 1, 2, 3, 4] rfl kr rfl (pr_move rfl rfl) (.inr rfl) rfl rfl ?_
  refine D_pure (i := 2) [0, 1, 2, 3, 4] rfl kr rfl (pr_ixa (j := i) (m' := i) sd oM Tryz.underlying117 (z := 1) kr rfl rfl rfl) (.inr rfl) rfl rfl ?_
  refine D_pure (i := 4) [0, 1, 2, 3, 4] rfl kr rfl (pr_move rfl rfl) (.inr rfl) rfl rfl ?_
  refine D_pure (i := 5) [0, 1, 2, 3, 4] rfl kr rfl (pr_add (na_i64 (a := 16) (b := i) sd) rfl rfl rfl) (.inr rfl) rfl rfl ?_
  refine D_pure (i := 6) [0, 1, 2, 3, 4] rfl kr rfl (pr_ixa (j := 16 + i) (m' := 16 + i) sd oM Tryz.underlying22 (z := 1) kr rfl rfl rfl) (.inr rfl) rfl rfl ?_
  refine D_take (i := 3) [0, 1, 2, 3, 4] rfl kr rfl (ld_blk 0 rfl (get32 sd) Tryz.underlying61 rfl rfl rfl) rfl rfl rfl ?_
  refine D_take (i := 7) [0, 1, 2, 3, 4] rfl kr rfl (ld_blk 3 rfl (get8 sd) Tryz.underlying5 rfl rfl rfl) rfl rfl rfl ?_
  refine D_pure (i := 8) [0, 1, 2, 3, 4] rfl kr rfl (pr_cv (cv8_32 _) Tryz.underlying5 Tryz.underlying61 rfl rfl) (.inr rfl) rfl rfl ?_
  refine D_pure (i := 9) [0, 1, 2, 3, 4] rfl kr rfl (pr_add (add32 _ _) rfl rfl rfl) (.inr rfl) rfl rfl ?_
  refine D_pure (i := 10) [0, 1, 2, 3, 4] rfl kr rfl (pr_ixa (j := i) (m' := i) sd oM Tryz.underlying117 (z := 1) kr rfl rfl rfl) (.inr rfl) rfl rfl ?_
  refine D_one 11 _ rfl kr rfl (op_store (vs := [(b32 ((ath us i) + ((ath key (16 + i)).setWidth 32)))]) (cs' := ((List.set us i ((ath us i) + ((ath key (16 + i)).setWidth 32))).map b32)) 0 rfl rfl kr (one_one rfl) (stl sd) (splice_map (f := b32) sd) rfl rfl rfl rfl ?_)
  refine D_past kr ?_
  refine D_done kr ?_
  refine lR ?_
  refine lM ?_
  refine lO (pr_add (na_i64 (a := i) (b := 1) sd) rfl rfl rfl) ?_
  refine lS ?_
  refine L_nil ?_
  exact T_again (i + 1, (List.set us i ((ath us i) + ((ath key (16 + i)).setWidth 32)))) (⟨by omega, ad_step hp.2 oM oM _ (key_at _ _ oM)⟩) pN (sc rfl (sc rfl (sc rfl (sc rfl sn)))) [0, 1, 2, 3, 4] ⟨by decide, rfl⟩
 have hc_20 := of_decide_eq_false hc_20
 refine T_exit rfl ?_
 obtain rfl : 16 = i := by omega
 refine lT ?_
 refine lQ (ld_agg (ds := (us.map b32)) 0 rfl agg_all Tryz.underlying117 rfl (fwz (n := 40) kr sd) rfl rfl) ?_
 refine L_op rfl (op_cn (fun w hw => rcarry_f us 512 w (hok_nil w) (ad_len hp.2) (ad_all hp.2 oM).2 sd) (enters_of Tryz.func86 kr rfl) rfl rfl rfl rfl rfl (fun t21 q22 => ?_))
 refine T_slot 102 (.agg ((dig 32 40 (vw us)).map b32).toArray) (.agg ((dig 32 40 ((Ac % polyP) + ps key)).map b32).toArray) rfl (by rw [(ad_all hp.2 oM).1]; unfold ps; rfl) ?_
 refine L_op rfl (op_sto (n := 40) (vs := ((dig 32 40 ((Ac % polyP) + ps key)).map b32)) 0 rfl rfl kr (all32_one _) sd sd rfl rfl rfl rfl ?_)
 refine lN ?_
 refine L_op rfl (op_alloc (z := .agg ((List.replicate 16 0#8).map b8).toArray) (zs := ((List.replicate 16 0#8).map b8)) kr rfl rfl rfl rfl (fun g23 => ?_))
 refine L_nil ?_
 refine T_seq ?_
 refine lT ?_
 refine lS ?_
 refine L_nil ?_
 refine T_block ?_
 refine T_as 0 _ (.blk g23 62 ((prez (dig 8 16 (Ac % polyP + ps key)) 16 0).map b8)) rfl (by rw [← prez_zero]) ?_
 refine T_loop (T := Nat) (fun i => i ≤ 16) (fun i => [(4, (.pointer (some ⟨g2, 0, none⟩))), (6, (.pointer (some ⟨g6, 0, none⟩))), (14, (.pointer (some ⟨g23, 0, none⟩))), (15, (.int .i64 ((i : Nat) : Int)))]) (fun i => [.blk g23 62 ((prez (dig 8 16 (Ac % polyP + ps key)) 16 i).map b8), .blk g6 117 ((dig 32 40 ((Ac % polyP) + ps key)).map b32), .blk g5 62 ((clampb key).map b8), .blk g2 62 ((List.replicate 16 0#8).map b8), .blk g1 22 (key.map b8), .rd A 1 n c (ts.map b8)]) (fun i => 16 - i) 0 pN (sc rfl (sc rfl (sc rfl (sc rfl sn)))) [0, 1, 2, 3, 4, 5] ⟨by decide, rfl⟩ ?_
 rintro i hp
 have hp : i ≤ 16 := hp
 have hpz := prez_len (dig 8 16 (Ac % polyP + ps key)) 16 i (dig_len _ _ _) hp
 have hd2 := hdl ((Ac % polyP) + ps key)
 refine lE [(4, (.pointer (some ⟨g2, 0, none⟩))), (6, (.pointer (some ⟨g6, 0, none⟩))), (14, (.pointer (some ⟨g23, 0, none⟩))), (15, (.int .i64 ((i : Nat) : Int)))] ?_
 refine lH [0, 1, 2, 3, 4, 5] [.blk g23 62 ((prez (dig 8 16 (Ac % polyP + ps key)) 16 i).map b8), .blk g6 117 ((dig 32 40 ((Ac % polyP) + ps key)).map b32), .blk g5 62 ((clampb key).map b8), .blk g2 62 ((List.replicate 16 0#8).map b8), .blk g1 22 (key.map b8), .rd A 1 n c (ts.map b8)] ?_
 refine T_seq ?_
 refine lT ?_
 refine lM ?_
 refine lO (pr_cmp (bo := .lss) (nc_lt (a := i) (b := 16)) rfl rfl rfl rfl) ?_
 refine L_nil ?_
 refine T_cond (decide (i < 16)) rfl (fun hc_24 => ?_) (fun hc_24 => ?_)
 ·have hc_24 := of_decide_eq_true hc_24
  refine T_skip ?_
  refine T_seq ?_
  refine T_block ?_
  refine lR ?_
  refine lM ?_
  refine lM ?_
  refine lO (pr_ixa (j := i) (m' := i) sd oM Tryz.underlying117 (z := 1) kr rfl rfl rfl) ?_
  refine lQ (ld_blk 1 rfl (get32 sd) Tryz.underlying61 rfl rfl rfl) ?_
  refine lO (pr_cv (cv32_8 _) Tryz.underlying61 Tryz.underlying5 rfl rfl) ?_
  refine lO (pr_ixa (j := i) (m' := i) sd oM Tryz.underlying62 (z := 1) kr rfl rfl rfl) ?_
  refine L_op rfl (op_store (vs := [(b8 ((ath (dig 32 40 ((Ac % polyP) + ps key)) i).setWidth 8))]) (cs' := ((List.set (prez (dig 8 16 (Ac % polyP + ps key)) 16 i) i ((ath (dig 32 40 ((Ac % polyP) + ps key)) i).setWidth 8)).map b8)) 0 rfl rfl kr (one_one rfl) (stl sd) (splice_map (f := b8) sd) rfl rfl rfl rfl ?_)
  refine L_nil ?_
  refine lR ?_
  refine lM ?_
  refine lO (pr_add (na_i64 (a := i) (b := 1) sd) rfl rfl rfl) ?_
  refine lS ?_
  refine L_nil ?_
  refine T_as 0 _ (.blk g23 62 ((prez (dig 8 16 (Ac % polyP + ps key)) 16 (i + 1)).map b8)) rfl (by rw [prez_set (dig 8 16 (Ac % polyP + ps key)) 16 i (dig_len _ _ _) oM _ (dig_byte _ _ oM)]) ?_
  exact T_again (i + 1) pN pN (sc rfl (sc rfl (sc rfl (sc rfl sn)))) [0, 1, 2, 3, 4, 5] ⟨by decide, rfl⟩
 have hc_24 := of_decide_eq_false hc_24
 refine T_exit rfl ?_
 obtain rfl : 16 = i := by omega
 refine lT ?_
 refine lQ (ld_agg (ds := ((prez (dig 8 16 (Ac % polyP + ps key)) 16 16).map b8)) 0 rfl agg_all Tryz.underlying62 rfl (fwz (n := 16) kr sd) rfl rfl) ?_
 refine L_op rfl (op_sto (n := 16) (vs := ((prez (dig 8 16 (Ac % polyP + ps key)) 16 16).map b8)) 3 rfl rfl kr (all8_one _) kr sd rfl rfl rfl rfl ?_)
 refine L_nil ?_
 refine T_ret ?_
 refine T_as 0 _ (.blk g2 62 ((ptag key ts).map b8)) rfl (by rw [prez_all _ _ (dig_len _ _ _), pacc_end key ts Ac k n hx hp0.2.1 oM oM]) ?_
 exact T_fin () qN (resb 0 rfl rfl rfl Tryz.underlying62 rfl (fwz (n := 16) kr sd)) [] ⟨by decide, rfl⟩ rfl
end Go.Proofs.YtlplpmkdebemnaaGreat
namespace Go.Proofs.YtlplpmkdebemnaaGreat
set_option maxRecDepth 100000
open Go.RowKit Bv Fw
theorem add64_at (x y c : BitVec 64) (hc : c.toNat ≤ 1) : ∃ s d : BitVec 64, s.toNat + 18446744073709551616 * d.toNat = x.toNat + y.toNat + c.toNat ∧ d.toNat ≤ 1 ∧ ∀ w, (callFunc 94 [b64 x, b64 y, b64 c].toArray).run Tryz.prog w = .ok (.value (.tuple [b64 s, b64 d].toArray)) w :=
  add64_ext Tryz.func94 (by kernel_rfl) (by kernel_rfl) (by kernel_rfl) (by kernel_rfl) x y c hc
theorem mul64_ex (x y : BitVec 64) : ∃ h l : BitVec 64, 18446744073709551616 * h.toNat + l.toNat = x.toNat * y.toNat ∧ h = (x >>> 32) * (y >>> 32) + (((x >>> 32) * (y &&& 4294967295#64) + (((x &&& 4294967295#64) * (y &&& 4294967295#64)) >>> 32)) >>> 32) + (((((x >>> 32) * (y &&& 4294967295#64) + (((x &&& 4294967295#64) * (y &&& 4294967295#64)) >>> 32)) &&& 4294967295#64) + (x &&& 4294967295#64) * (y >>> 32)) >>> 32) ∧ l = x * y :=
  ⟨_, _, mul64_law x y, rfl, rfl⟩
set_option maxHeartbeats 4000000 in
theorem mul64_f (x : BitVec 64) (y : BitVec 64) (w : World) (hO : HOK [] w)  : Calls Tryz.prog 95 [(b64 x), (b64 y)].toArray w (Ret (T := BitVec 64 × BitVec 64) [] w (fun ⟨h, l⟩ => 18446744073709551616 * h.toNat + l.toNat = x.toNat * y.toNat) (fun ⟨h, l⟩ => (.tuple [(b64 h), (b64 l)].toArray)) (fun ⟨h, l⟩ => [])) := by
 obtain ⟨h, l, hhl, hh, hl⟩ := mul64_ex x y
 refine enter (c := _) Tryz.func95 rfl [] _ [] (by rw [Tryz.ntmps95]; rfl) (own_rds hO rfl) ?_
 rw [Tryz.ntmps95]
 refine lE [(0, (b64 x)), (1, (b64 y))] ?_
 refine lH [] [] ?_
 refine lT ?_
 refine lS ?_
 refine lS ?_
 refine lN ?_
 refine lM ?_
 refine lO (pr_and (ib_and64 _ (4294967295#64)) rfl rfl rfl) ?_
 refine lS ?_
 refine lN ?_
 refine lM ?_
 refine lO (pr_shift (sh_shr64 x _ 32) rfl rfl rfl rfl) ?_
 refine lS ?_
 refine lN ?_
 refine lM ?_
 refine lO (pr_and (ib_and64 _ (4294967295#64)) rfl rfl rfl) ?_
 refine lS ?_
 refine lN ?_
 refine lM ?_
 refine lO (pr_shift (sh_shr64 y _ 32) rfl rfl rfl rfl) ?_
 refine lS ?_
 refine lN ?_
 refine lM ?_
 refine lM ?_
 refine lO (pr_mul (mul64 _ _) rfl rfl rfl) ?_
 refine lS ?_
 refine lN ?_
 refine lM ?_
 refine lM ?_
 refine lO (pr_mul (mul64 _ _) rfl rfl rfl) ?_
 refine lM ?_
 refine lO (pr_shift (sh_shr64 ((x &&& 4294967295#64) * (y &&& 4294967295#64)) _ 32) rfl rfl rfl rfl) ?_
 refine lO (pr_add (add64 _ _) rfl rfl rfl) ?_
 refine lS ?_
 refine lN ?_
 refine lM ?_
 refine lO (pr_and (ib_and64 _ (4294967295#64)) rfl rfl rfl) ?_
 refine lS ?_
 refine lN ?_
 refine lM ?_
 refine lO (pr_shift (sh_shr64 (((x >>> 32) * (y &&& 4294967295#64)) + (((x &&& 4294967295#64) * (y &&& 4294967295#64)) >>> 32)) _ 32) rfl rfl rfl rfl) ?_
 refine lS ?_
 refine lN ?_
 refine lM ?_
 refine lM ?_
 refine lM ?_
 refine lO (pr_mul (mul64 _ _) rfl rfl rfl) ?_
 refine lO (pr_add (add64 _ _) rfl rfl rfl) ?_
 refine lS ?_
 refine lN ?_
 refine lM ?_
 refine lM ?_
 refine lO (pr_mul (mul64 _ _) rfl rfl rfl) ?_
 refine lM ?_
 refine lO (pr_add (add64 _ _) rfl rfl rfl) ?_
 refine lM ?_
 refine lO (pr_shift (sh_shr64 (((((x >>> 32) * (y &&& 4294967295#64)) + (((x &&& 4294967295#64) * (y &&& 4294967295#64)) >>> 32)) &&& 4294967295#64) + ((x &&& 4294967295#64) * (y >>> 32))) _ 32) rfl rfl rfl rfl) ?_
 refine lO (pr_add (add64 _ _) rfl rfl rfl) ?_
 refine lS ?_
 refine lN ?_
 refine lM ?_
 refine lM ?_
 refine lO (pr_mul (mul64 _ _) rfl rfl rfl) ?_
 refine lS ?_
 refine L_nil ?_
 refine T_ret ?_
 refine T_slot 4 _ (b64 h) rfl (by first | rw [hh] | rw [hl]) ?_
 refine T_slot 5 (b64 (x * y)) (b64 l) rfl (by first | rw [hh] | rw [hl]) ?_
 exact T_fin (h, l) (hhl) (res2 rfl rfl rfl) [] ⟨by decide, rfl⟩ rfl
set_option maxHeartbeats 4000000 in
theorem plus_f (a0 : BitVec 64) (a1 : BitVec 64) (a2 : BitVec 64) (x : BitVec 64) (y : BitVec 64) (z : BitVec 64) (w : World) (hO : HOK [] w) (hb : a2.toNat + z.toNat + 1 < 18446744073709551616) : Calls Tryz.prog 79 [(.agg [(b64 a0), (b64 a1), (b64 a2)].toArray), (b64 x), (b64 y), (b64 z)].toArray w (Ret (T := BitVec 64 × BitVec 64 × BitVec 64) [] w (fun ⟨b0, b1, b2⟩ => v3 b0 b1 b2 = v3 a0 a1 a2 + v3 x y z) (fun ⟨b0, b1, b2⟩ => (.agg [(b64 b0), (b64 b1), (b64 b2)].toArray)) (fun ⟨b0, b1, b2⟩ => [])) := by
 refine enter (c := _) Tryz.func79 rfl [] _ [] (by rw [Tryz.ntmps79]; rfl) (own_rds hO rfl) ?_
 rw [Tryz.ntmps79]
 refine lE [(0, (.agg [(b64 a0), (b64 a1), (b64 a2)].toArray)), (1, (b64 x)), (2, (b64 y)), (3, (b64 z))] ?_
 refine lH [] [] ?_
 refine lT ?_
 refine L_op rfl (op_box (zs := [(b64 a0), (b64 a1), (b64 a2)]) rfl rfl rfl rfl rfl (fun g1 => ?_))
 refine L_op rfl (op_alloc (z := .agg [(b64 (0#64)), (b64 (0#64)), (b64 (0#64))].toArray) (zs := [(b64 (0#64)), (b64 (0#64)), (b64 (0#64))]) kr rfl rfl rfl rfl (fun g2 => ?_))
 refine lN ?_
 refine lS ?_
 refine lN ?_
 refine lO (pr_ixa (j := 0) (m' := 0) sd oM Tryz.underlying108 (z := 1) kr rfl rfl rfl) ?_
 refine lQ (ld_blk 1 rfl rfl Tryz.underlying23 rfl rfl rfl) ?_
 refine lM ?_
 obtain ⟨s3, d4, ha_5, hb_6, hv_7⟩ := add64_at a0 x (0#64) (by decide)
 refine lO (pr_extern hv_7 rfl rfl rfl) ?_
 refine lM ?_
 refine lO (pr_ext (vs := [(b64 s3), (b64 d4)]) rfl rfl rfl) ?_
 refine lO (pr_ext (vs := [(b64 s3), (b64 d4)]) rfl rfl rfl) ?_
 refine lO (pr_ixa (j := 0) (m' := 0) sd oM Tryz.underlying108 (z := 1) kr rfl rfl rfl) ?_
 refine L_op rfl (op_store (vs := [(b64 s3)]) (cs' := [(b64 s3), (b64 a1), (b64 a2)]) 1 rfl rfl kr (one_one rfl) (by simp) rfl rfl rfl rfl rfl ?_)
 refine lS ?_
 refine lN ?_
 refine lO (pr_ixa (j := 1) (m' := 1) sd oM Tryz.underlying108 (z := 1) kr rfl rfl rfl) ?_
 refine lQ (ld_blk 0 rfl rfl Tryz.underlying23 rfl rfl rfl) ?_
 refine lM ?_
 refine lM ?_
 obtain ⟨s8, d9, ha_10, hb_11, hv_12⟩ := add64_at a1 y d4 aS
 refine lO (pr_extern hv_12 rfl rfl rfl) ?_
 refine lM ?_
 refine lO (pr_ext (vs := [(b64 s8), (b64 d9)]) rfl rfl rfl) ?_
 refine lO (pr_ext (vs := [(b64 s8), (b64 d9)]) rfl rfl rfl) ?_
 refine lO (pr_ixa (j := 1) (m' := 1) sd oM Tryz.underlying108 (z := 1) kr rfl rfl rfl) ?_
 refine L_op rfl (op_store (vs := [(b64 s8)]) (cs' := [(b64 s3), (b64 s8), (b64 a2)]) 0 rfl rfl kr (one_one rfl) (by simp) rfl rfl rfl rfl rfl ?_)
 refine lS ?_
 refine lN ?_
 refine lO (pr_ixa (j := 2) (m' := 2) sd oM Tryz.underlying108 (z := 1) kr rfl rfl rfl) ?_
 refine lQ (ld_blk 0 rfl rfl Tryz.underlying23 rfl rfl rfl) ?_
 refine lM ?_
 refine lM ?_
 refine lO (pr_add (add64 _ _) rfl rfl rfl) ?_
 refine lO (pr_add (add64 _ _) rfl rfl rfl) ?_
 refine lO (pr_ixa (j := 2) (m' := 2) sd oM Tryz.underlying108 (z := 1) kr rfl rfl rfl) ?_
 refine L_op rfl (op_store (vs := [(b64 (a2 + (z + d9)))]) (cs' := [(b64 s3), (b64 s8), (b64 (a2 + (z + d9)))]) 0 rfl rfl kr (one_one rfl) (by simp) rfl rfl rfl rfl rfl ?_)
 refine lN ?_
 refine lQ (ld_agg (ds := [(b64 s3), (b64 s8), (b64 (a2 + (z + d9)))]) 0 rfl agg_all Tryz.underlying108 rfl kr rfl rfl) ?_
 refine L_op rfl (op_sto (n := 3) (vs := [(b64 s3), (b64 s8), (b64 (a2 + (z + d9)))]) 1 rfl rfl kr (by simp [Value.oneCell']) kr kr rfl rfl rfl rfl ?_)
 refine L_nil ?_
 refine T_ret ?_
 exact T_fin (s3, s8, (a2 + (z + d9))) (plus_law aS aS aS hb) (resb 0 rfl rfl rfl Tryz.underlying108 rfl kr) [] ⟨by decide, rfl⟩ rfl
def setand (xs : List (BitVec 8)) (i : Nat) (b : BitVec 8) : List (BitVec 8) := xs.set i (ath xs i &&& b)
theorem setand_def (xs : List (BitVec 8)) (i : Nat) (b : BitVec 8) : xs.set i (ath xs i &&& b) = setand xs i b := rfl
theorem setand_len (xs : List (BitVec 8)) (i : Nat) (b : BitVec 8) : (setand xs i b).length = xs.length := by simp [setand]
theorem ath_setand (xs : List (BitVec 8)) (i j : Nat) (b : BitVec 8) (h : i < xs.length) : ath (setand xs i b) j = if i = j then ath xs j &&& b else ath xs j := by
  unfold setand
  rw [ath_set _ _ _ _ h]
  split
  · next e => rw [e]
  · rfl
theorem clamp_hand (key : List (BitVec 8)) (h : key.length = 32) : setand (setand (setand (setand (setand (setand (setand (List.take 16 key) 3 15#8) 7 15#8) 11 15#8) 15 15#8) 4 252#8) 8 252#8) 12 252#8 = clampb key := by
  have hl : (List.take 16 key).length = 16 := by simp; omega
  refine ext_ath (by simp only [setand_len, clampb_len, hl]) (fun j hj => ?_)
  simp only [setand_len, hl] at hj
  rw [clampb_at _ _ hj]
  rw [ath_setand _ _ _ _ (by simp only [setand_len, hl]; omega), ath_setand _ _ _ _ (by simp only [setand_len, hl]; omega), ath_setand _ _ _ _ (by simp only [setand_len, hl]; omega), ath_setand _ _ _ _ (by simp only [setand_len, hl]; omega), ath_setand _ _ _ _ (by simp only [setand_len, hl]; omega), ath_setand _ _ _ _ (by simp only [setand_len, hl]; omega), ath_setand _ _ _ _ (by simp only [setand_len, hl]; omega), ath_take _ _ _ hj]
  rcases (by omega : j = 0 ∨ j = 1 ∨ j = 2 ∨ j = 3 ∨ j = 4 ∨ j = 5 ∨ j = 6 ∨ j = 7 ∨ j = 8 ∨ j = 9 ∨ j = 10 ∨ j = 11 ∨ j = 12 ∨ j = 13 ∨ j = 14 ∨ j = 15) with rfl | rfl | rfl | rfl | rfl | rfl | rfl | rfl | rfl | rfl | rfl | rfl | rfl | rfl | rfl | rfl <;> simp
attribute [irreducible] setand
set_option maxHeartbeats 4000000 in
theorem clamp_f (key : List (BitVec 8)) (w : World) (hO : HOK [] w) (hkl : key.length = 32) : Calls Tryz.prog 77 [(.agg (key.map b8).toArray)].toArray w (Ret (T := Unit) [] w (fun _ => True) (fun _ => (.agg ((clampb key).map b8).toArray)) (fun _ => [])) := by
 have hcl := clampb_len key
 have htl : (List.take 16 key).length = 16 := by simp; omega
 refine enter (c := _) Tryz.func77 rfl [] _ [] (by rw [Tryz.ntmps77]; rfl) (own_rds hO rfl) ?_
 rw [Tryz.ntmps77]
 refine lE [(0, (.agg (key.map b8).toArray))] ?_
 refine lH [] [] ?_
 refine lT ?_
 refine L_op rfl (op_box (zs := (key.map b8)) rfl rfl rfl rfl rfl (fun g1 => ?_))
 refine L_op rfl (op_alloc (z := .agg ((List.replicate 16 0#8).map b8).toArray) (zs := ((List.replicate 16 0#8).map b8)) kr rfl rfl rfl rfl (fun g2 => ?_))
 refine lN ?_
 refine lO (pr_sla (l := 0) (u := 16) (m := 0) sd sd sd rfl Tryz.underlying22 (z := 1) kr rfl rfl rfl ⟨_, rfl⟩) ?_
 refine lO (pr_s2a sd Tryz.underlying62 rfl rfl) ?_
 refine lQ (ld_agg (ds := ((List.take 16 key).map b8)) 1 rfl (by simp [List.map_take, List.map_drop]) Tryz.underlying62 rfl (fwz (n := 16) kr sd) rfl rfl) ?_
 refine L_op rfl (op_alloc (z := .agg ((List.replicate 16 0#8).map b8).toArray) (zs := ((List.replicate 16 0#8).map b8)) kr rfl rfl rfl rfl (fun g3 => ?_))
 refine L_op rfl (op_sto (n := 16) (vs := ((List.take 16 key).map b8)) 0 rfl rfl kr (all8_one _) kr sd rfl rfl rfl rfl ?_)
 refine L_nil ?_
 refine T_seq ?_
 refine lT ?_
 refine L_op rfl (op_bslice (e := 3) (zs := [(.int .i64 ((3 : Nat) : Int)), (.int .i64 ((7 : Nat) : Int)), (.int .i64 ((11 : Nat) : Int)), (.int .i64 ((15 : Nat) : Int))]) (qs := [(0, (.int .i64 ((3 : Nat) : Int))), (1, (.int .i64 ((7 : Nat) : Int))), (2, (.int .i64 ((11 : Nat) : Int))), (3, (.int .i64 ((15 : Nat) : Int)))]) (fun _ => by kernel_rfl) rfl rfl rfl rfl (fun g4 => ?_))
 refine lO (pr_len_sl Tryz.underlying122 rfl rfl) ?_
 refine lM ?_
 refine L_nil ?_
 refine T_block ?_
 refine T_rounds 5 ?_
 refine T_round ?_
 refine lT ?_
 refine lO (pr_cmp (bo := .lss) (nc_lt (a := 0) (b := 4)) rfl rfl rfl rfl) ?_
 refine L_nil ?_
 refine T_seq ?_
 refine T_cond_t rfl ?_
 refine T_skip ?_
 refine T_seq ?_
 refine T_block ?_
 refine lT ?_
 refine lO (pr_ixb (j := 0) (m' := 0) sd oM Tryz.underlying122 (z := 1) kr rfl rfl rfl) ?_
 refine lQ (ld_blk 0 rfl rfl Tryz.underlying3 rfl rfl rfl) ?_
 refine lS ?_
 refine L_nil ?_
 refine lR ?_
 refine lM ?_
 refine lO (pr_ixa (j := 3) (m' := 3) sd oM Tryz.underlying62 (z := 1) kr rfl rfl rfl) ?_
 refine lQ (ld_blk 1 rfl (get8 sd) Tryz.underlying5 rfl rfl rfl) ?_
 refine lO (pr_and (ib_and8 _ (15#8)) rfl rfl rfl) ?_
 refine lO (pr_ixa (j := 3) (m' := 3) sd oM Tryz.underlying62 (z := 1) kr rfl rfl rfl) ?_
 refine L_op rfl (op_store (vs := [(b8 ((ath (List.take 16 key) 3) &&& 15#8))]) (cs' := ((List.set (List.take 16 key) 3 ((ath (List.take 16 key) 3) &&& 15#8)).map b8)) 1 rfl rfl kr (one_one rfl) (stl sd) (splice_map (f := b8) sd) rfl rfl rfl rfl ?_)
 refine L_nil ?_
 refine lR ?_
 refine lO (pr_add (na_i64 (a := 0) (b := 1) sd) rfl rfl rfl) ?_
 refine lM ?_
 refine L_nil ?_
 refine T_round ?_
 refine T_as 0 _ (.blk g3 62 ((setand (List.take 16 key) 3 15#8).map b8)) rfl (by rw [setand_def]) ?_
 have hse2 : ((setand (List.take 16 key) 3 15#8)).length = 16 := by simp only [setand_len]; omega
 refine lT ?_
 refine lO (pr_cmp (bo := .lss) (nc_lt (a := 1) (b := 4)) rfl rfl rfl rfl) ?_
 refine L_nil ?_
 refine T_seq ?_
 refine T_cond_t rfl ?_
 refine T_skip ?_
 refine T_seq ?_
 refine T_block ?_
 refine lT ?_
 refine lO (pr_ixb (j := 1) (m' := 1) sd oM Tryz.underlying122 (z := 1) kr rfl rfl rfl) ?_
 refine lQ (ld_blk 1 rfl rfl Tryz.underlying3 rfl rfl rfl) ?_
 refine lS ?_
 refine L_nil ?_
 refine lR ?_
 refine lM ?_
 refine lO (pr_ixa (j := 7) (m' := 7) sd oM Tryz.underlying62 (z := 1) kr rfl rfl rfl) ?_
 refine lQ (ld_blk 0 rfl (get8 sd) Tryz.underlying5 rfl rfl rfl) ?_
 refine lO (pr_and (ib_and8 _ (15#8)) rfl rfl rfl) ?_
 refine lO (pr_ixa (j := 7) (m' := 7) sd oM Tryz.underlying62 (z := 1) kr rfl rfl rfl) ?_
 refine L_op rfl (op_store (vs := [(b8 ((ath (setand (List.take 16 key) 3 15#8) 7) &&& 15#8))]) (cs' := ((List.set (setand (List.take 16 key) 3 15#8) 7 ((ath (setand (List.take 16 key) 3 15#8) 7) &&& 15#8)).map b8)) 0 rfl rfl kr (one_one rfl) (stl sd) (splice_map (f := b8) sd) rfl rfl rfl rfl ?_)
 refine L_nil ?_
 refine lR ?_
 refine lO (pr_add (na_i64 (a := 1) (b := 1) sd) rfl rfl rfl) ?_
 refine lM ?_
 refine L_nil ?_
 refine T_round ?_
 refine T_as 0 _ (.blk g3 62 ((setand (setand (List.take 16 key) 3 15#8) 7 15#8).map b8)) rfl (by rw [setand_def]) ?_
 have hse3 : ((setand (setand (List.take 16 key) 3 15#8) 7 15#8)).length = 16 := by simp only [setand_len]; omega
 refine lT ?_
 refine lO (pr_cmp (bo := .lss) (nc_lt (a := 2) (b := 4)) rfl rfl rfl rfl) ?_
 refine L_nil ?_
 refine T_seq ?_
 refine T_cond_t rfl ?_
 refine T_skip ?_
 refine T_seq ?_
 refine T_block ?_
 refine lT ?_
 refine lO (pr_ixb (j := 2) (m' := 2) sd oM Tryz.underlying122 (z := 1) kr rfl rfl rfl) ?_
 refine lQ (ld_blk 1 rfl rfl Tryz.underlying3 rfl rfl rfl) ?_
 refine lS ?_
 refine L_nil ?_
 refine lR ?_
 refine lM ?_
 refine lO (pr_ixa (j := 11) (m' := 11) sd oM Tryz.underlying62 (z := 1) kr rfl rfl rfl) ?_
 refine lQ (ld_blk 0 rfl (get8 sd) Tryz.underlying5 rfl rfl rfl) ?_
 refine lO (pr_and (ib_and8 _ (15#8)) rfl rfl rfl) ?_
 refine lO (pr_ixa (j := 11) (m' := 11) sd oM Tryz.underlying62 (z := 1) kr rfl rfl rfl) ?_
 refine L_op rfl (op_store (vs := [(b8 ((ath (setand (setand (List.take 16 key) 3 15#8) 7 15#8) 11) &&& 15#8))]) (cs' := ((List.set (setand (setand (List.take 16 key) 3 15#8) 7 15#8) 11 ((ath (setand (setand (List.take 16 key) 3 15#8) 7 15#8) 11) &&& 15#8)).map b8)) 0 rfl rfl kr (one_one rfl) (stl sd) (splice_map (f := b8) sd) rfl rfl rfl rfl ?_)
 refine L_nil ?_
 refine lR ?_
 refine lO (pr_add (na_i64 (a := 2) (b := 1) sd) rfl rfl rfl) ?_
 refine lM ?_
 refine L_nil ?_
 refine T_round ?_
 refine T_as 0 _ (.blk g3 62 ((setand (setand (setand (List.take 16 key) 3 15#8) 7 15#8) 11 15#8).map b8)) rfl (by rw [setand_def]) ?_
 have hse4 : ((setand (setand (setand (List.take 16 key) 3 15#8) 7 15#8) 11 15#8)).length = 16 := by simp only [setand_len]; omega
 refine lT ?_
 refine lO (pr_cmp (bo := .lss) (nc_lt (a := 3) (b := 4)) rfl rfl rfl rfl) ?_
 refine L_nil ?_
 refine T_seq ?_
 refine T_cond_t rfl ?_
 refine T_skip ?_
 refine T_seq ?_
 refine T_block ?_
 refine lT ?_
 refine lO (pr_ixb (j := 3) (m' := 3) sd oM Tryz.underlying122 (z := 1) kr rfl rfl rfl) ?_
 refine lQ (ld_blk 1 rfl rfl Tryz.underlying3 rfl rfl rfl) ?_
 refine lS ?_
 refine L_nil ?_
 refine lR ?_
 refine lM ?_
 refine lO (pr_ixa (j := 15) (m' := 15) sd oM Tryz.underlying62 (z := 1) kr rfl rfl rfl) ?_
 refine lQ (ld_blk 0 rfl (get8 sd) Tryz.underlying5 rfl rfl rfl) ?_
 refine lO (pr_and (ib_and8 _ (15#8)) rfl rfl rfl) ?_
 refine lO (pr_ixa (j := 15) (m' := 15) sd oM Tryz.underlying62 (z := 1) kr rfl rfl rfl) ?_
 refine L_op rfl (op_store (vs := [(b8 ((ath (setand (setand (setand (List.take 16 key) 3 15#8) 7 15#8) 11 15#8) 15) &&& 15#8))]) (cs' := ((List.set (setand (setand (setand (List.take 16 key) 3 15#8) 7 15#8) 11 15#8) 15 ((ath (setand (setand (setand (List.take 16 key) 3 15#8) 7 15#8) 11 15#8) 15) &&& 15#8)).map b8)) 0 rfl rfl kr (one_one rfl) (stl sd) (splice_map (f := b8) sd) rfl rfl rfl rfl ?_)
 refine L_nil ?_
 refine lR ?_
 refine lO (pr_add (na_i64 (a := 3) (b := 1) sd) rfl rfl rfl) ?_
 refine lM ?_
 refine L_nil ?_
 refine T_round ?_
 refine T_as 0 _ (.blk g3 62 ((setand (setand (setand (setand (List.take 16 key) 3 15#8) 7 15#8) 11 15#8) 15 15#8).map b8)) rfl (by rw [setand_def]) ?_
 have hse5 : ((setand (setand (setand (setand (List.take 16 key) 3 15#8) 7 15#8) 11 15#8) 15 15#8)).length = 16 := by simp only [setand_len]; omega
 refine lT ?_
 refine lO (pr_cmp (bo := .lss) (nc_lt (a := 4) (b := 4)) rfl rfl rfl rfl) ?_
 refine L_nil ?_
 refine T_seq ?_
 refine T_cond_f rfl ?_
 refine T_exit rfl ?_
 refine T_seq ?_
 refine lT ?_
 refine L_op rfl (op_bslice (e := 3) (zs := [(.int .i64 ((4 : Nat) : Int)), (.int .i64 ((8 : Nat) : Int)), (.int .i64 ((12 : Nat) : Int))]) (qs := [(0, (.int .i64 ((4 : Nat) : Int))), (1, (.int .i64 ((8 : Nat) : Int))), (2, (.int .i64 ((12 : Nat) : Int)))]) (fun _ => by kernel_rfl) rfl rfl rfl rfl (fun g5 => ?_))
 refine lO (pr_len_sl Tryz.underlying122 rfl rfl) ?_
 refine lM ?_
 refine L_nil ?_
 refine T_block ?_
 refine T_rounds 4 ?_
 refine T_round ?_
 refine lT ?_
 refine lO (pr_cmp (bo := .lss) (nc_lt (a := 0) (b := 3)) rfl rfl rfl rfl) ?_
 refine L_nil ?_
 refine T_seq ?_
 refine T_cond_t rfl ?_
 refine T_skip ?_
 refine T_seq ?_
 refine T_block ?_
 refine lT ?_
 refine lO (pr_ixb (j := 0) (m' := 0) sd oM Tryz.underlying122 (z := 1) kr rfl rfl rfl) ?_
 refine lQ (ld_blk 0 rfl rfl Tryz.underlying3 rfl rfl rfl) ?_
 refine lS ?_
 refine L_nil ?_
 refine lR ?_
 refine lM ?_
 refine lO (pr_ixa (j := 4) (m' := 4) sd oM Tryz.underlying62 (z := 1) kr rfl rfl rfl) ?_
 refine lQ (ld_blk 1 rfl (get8 sd) Tryz.underlying5 rfl rfl rfl) ?_
 refine lO (pr_and (ib_and8 _ (252#8)) rfl rfl rfl) ?_
 refine lO (pr_ixa (j := 4) (m' := 4) sd oM Tryz.underlying62 (z := 1) kr rfl rfl rfl) ?_
 refine L_op rfl (op_store (vs := [(b8 ((ath (setand (setand (setand (setand (List.take 16 key) 3 15#8) 7 15#8) 11 15#8) 15 15#8) 4) &&& 252#8))]) (cs' := ((List.set (setand (setand (setand (setand (List.take 16 key) 3 15#8) 7 15#8) 11 15#8) 15 15#8) 4 ((ath (setand (setand (setand (setand (List.take 16 key) 3 15#8) 7 15#8) 11 15#8) 15 15#8) 4) &&& 252#8)).map b8)) 1 rfl rfl kr (one_one rfl) (stl sd) (splice_map (f := b8) sd) rfl rfl rfl rfl ?_)
 refine L_nil ?_
 refine lR ?_
 refine lO (pr_add (na_i64 (a := 0) (b := 1) sd) rfl rfl rfl) ?_
 refine lM ?_
 refine L_nil ?_
 refine T_round ?_
 refine T_as 0 _ (.blk g3 62 ((setand (setand (setand (setand (setand (List.take 16 key) 3 15#8) 7 15#8) 11 15#8) 15 15#8) 4 252#8).map b8)) rfl (by rw [setand_def]) ?_
 have hse6 : ((setand (setand (setand (setand (setand (List.take 16 key) 3 15#8) 7 15#8) 11 15#8) 15 15#8) 4 252#8)).length = 16 := by simp only [setand_len]; omega
 refine lT ?_
 refine lO (pr_cmp (bo := .lss) (nc_lt (a := 1) (b := 3)) rfl rfl rfl rfl) ?_
 refine L_nil ?_
 refine T_seq ?_
 refine T_cond_t rfl ?_
 refine T_skip ?_
 refine T_seq ?_
 refine T_block ?_
 refine lT ?_
 refine lO (pr_ixb (j := 1) (m' := 1) sd oM Tryz.underlying122 (z := 1) kr rfl rfl rfl) ?_
 refine lQ (ld_blk 1 rfl rfl Tryz.underlying3 rfl rfl rfl) ?_
 refine lS ?_
 refine L_nil ?_
 refine lR ?_
 refine lM ?_
 refine lO (pr_ixa (j := 8) (m' := 8) sd oM Tryz.underlying62 (z := 1) kr rfl rfl rfl) ?_
 refine lQ (ld_blk 0 rfl (get8 sd) Tryz.underlying5 rfl rfl rfl) ?_
 refine lO (pr_and (ib_and8 _ (252#8)) rfl rfl rfl) ?_
 refine lO (pr_ixa (j := 8) (m' := 8) sd oM Tryz.underlying62 (z := 1) kr rfl rfl rfl) ?_
 refine L_op rfl (op_store (vs := [(b8 ((ath (setand (setand (setand (setand (setand (List.take 16 key) 3 15#8) 7 15#8) 11 15#8) 15 15#8) 4 252#8) 8) &&& 252#8))]) (cs' := ((List.set (setand (setand (setand (setand (setand (List.take 16 key) 3 15#8) 7 15#8) 11 15#8) 15 15#8) 4 252#8) 8 ((ath (setand (setand (setand (setand (setand (List.take 16 key) 3 15#8) 7 15#8) 11 15#8) 15 15#8) 4 252#8) 8) &&& 252#8)).map b8)) 0 rfl rfl kr (one_one rfl) (stl sd) (splice_map (f := b8) sd) rfl rfl rfl rfl ?_)
 refine L_nil ?_
 refine lR ?_
 refine lO (pr_add (na_i64 (a := 1) (b := 1) sd) rfl rfl rfl) ?_
 refine lM ?_
 refine L_nil ?_
 refine T_round ?_
 refine T_as 0 _ (.blk g3 62 ((setand (setand (setand (setand (setand (setand (List.take 16 key) 3 15#8) 7 15#8) 11 15#8) 15 15#8) 4 252#8) 8 252#8).map b8)) rfl (by rw [setand_def]) ?_
 have hse7 : ((setand (setand (setand (setand (setand (setand (List.take 16 key) 3 15#8) 7 15#8) 11 15#8) 15 15#8) 4 252#8) 8 252#8)).length = 16 := by simp only [setand_len]; omega
 refine lT ?_
 refine lO (pr_cmp (bo := .lss) (nc_lt (a := 2) (b := 3)) rfl rfl rfl rfl) ?_
 refine L_nil ?_
 refine T_seq ?_
 refine T_cond_t rfl ?_
 refine T_skip ?_
 refine T_seq ?_
 refine T_block ?_
 refine lT ?_
 refine lO (pr_ixb (j := 2) (m' := 2) sd oM Tryz.underlying122 (z := 1) kr rfl rfl rfl) ?_
 refine lQ (ld_blk 1 rfl rfl Tryz.underlying3 rfl rfl rfl) ?_
 refine lS ?_
 refine L_nil ?_
 refine lR ?_
 refine lM ?_
 refine lO (pr_ixa (j := 12) (m' := 12) sd oM Tryz.underlying62 (z := 1) kr rfl rfl rfl) ?_
 refine lQ (ld_blk 0 rfl (get8 sd) Tryz.underlying5 rfl rfl rfl) ?_
 refine lO (pr_and (ib_and8 _ (252#8)) rfl rfl rfl) ?_
 refine lO (pr_ixa (j := 12) (m' := 12) sd oM Tryz.underlying62 (z := 1) kr rfl rfl rfl) ?_
 refine L_op rfl (op_store (vs := [(b8 ((ath (setand (setand (setand (setand (setand (setand (List.take 16 key) 3 15#8) 7 15#8) 11 15#8) 15 15#8) 4 252#8) 8 252#8) 12) &&& 252#8))]) (cs' := ((List.set (setand (setand (setand (setand (setand (setand (List.take 16 key) 3 15#8) 7 15#8) 11 15#8) 15 15#8) 4 252#8) 8 252#8) 12 ((ath (setand (setand (setand (setand (setand (setand (List.take 16 key) 3 15#8) 7 15#8) 11 15#8) 15 15#8) 4 252#8) 8 252#8) 12) &&& 252#8)).map b8)) 0 rfl rfl kr (one_one rfl) (stl sd) (splice_map (f := b8) sd) rfl rfl rfl rfl ?_)
 refine L_nil ?_
 refine lR ?_
 refine lO (pr_add (na_i64 (a := 2) (b := 1) sd) rfl rfl rfl) ?_
 refine lM ?_
 refine L_nil ?_
 refine T_round ?_
 refine T_as 0 _ (.blk g3 62 ((setand (setand (setand (setand (setand (setand (setand (List.take 16 key) 3 15#8) 7 15#8) 11 15#8) 15 15#8) 4 252#8) 8 252#8) 12 252#8).map b8)) rfl (by rw [setand_def]) ?_
 have hse8 : ((setand (setand (setand (setand (setand (setand (setand (List.take 16 key) 3 15#8) 7 15#8) 11 15#8) 15 15#8) 4 252#8) 8 252#8) 12 252#8)).length = 16 := by simp only [setand_len]; omega
 refine lT ?_
 refine lO (pr_cmp (bo := .lss) (nc_lt (a := 3) (b := 3)) rfl rfl rfl rfl) ?_
 refine L_nil ?_
 refine T_seq ?_
 refine T_cond_f rfl ?_
 refine T_exit rfl ?_
 refine lT ?_
 refine lQ (ld_agg (ds := ((setand (setand (setand (setand (setand (setand (setand (List.take 16 key) 3 15#8) 7 15#8) 11 15#8) 15 15#8) 4 252#8) 8 252#8) 12 252#8).map b8)) 0 rfl agg_all Tryz.underlying62 rfl (fwz (n := 16) kr sd) rfl rfl) ?_
 refine L_op rfl (op_sto (n := 16) (vs := ((setand (setand (setand (setand (setand (setand (setand (List.take 16 key) 3 15#8) 7 15#8) 11 15#8) 15 15#8) 4 252#8) 8 252#8) 12 252#8).map b8)) 3 rfl rfl kr (all8_one _) kr sd rfl rfl rfl rfl ?_)
 refine L_nil ?_
 refine T_ret ?_
 refine T_as 0 _ (.blk g2 62 ((clampb key).map b8)) rfl (by rw [clamp_hand key hkl]) ?_
 exact T_fin () qN (resb 0 rfl rfl rfl Tryz.underlying62 rfl (fwz (n := 16) kr sd)) [] ⟨by decide, rfl⟩ rfl
end Go.Proofs.YtlplpmkdebemnaaGreat
namespace Go.Proofs.YtlplpmkdebemnaaGreat
set_option maxRecDepth 100000
open Go.RowKit Bv Fw
theorem piece_full (b : List (BitVec 8)) (h : b.length = 16) : v3 (low b 8) (low (List.drop 8 b) 8) 1#64 = pv b ∧ (1#64).toNat ≤ 1 := by
  refine ⟨?_, by decide⟩
  have h1 := vw_take16 b 16 oM
  rw [List.take_of_length_le oM] at h1
  unfold pv
  rw [v3_def, h, h1]
  have : (1#64).toNat = 1 := rfl
  rw [this]
theorem piece_short (b : List (BitVec 8)) (n : Nat) (h : b.length = n) (hn : n < 16) : v3 (low (List.set (cop (List.replicate 16 0#8) 0 b (min n 16)) (min n 16) 1#8) 8) (low (List.take 8 (List.drop 8 (List.set (cop (List.replicate 16 0#8) 0 b (min n 16)) (min n 16) 1#8))) 8) 0#64 = pv b ∧ (0#64).toNat ≤ 1 := by
  refine ⟨?_, by decide⟩
  have hm : min n 16 = n := by omega
  have e : List.set (cop (List.replicate 16 0#8) 0 b (min n 16)) (min n 16) 1#8 = b ++ ([1#8] ++ List.replicate (15 - n) 0#8) := by
    rw [hm]
    have e1 : cop (List.replicate 16 0#8) 0 b n = b ++ List.replicate (16 - n) 0#8 := by
      unfold cop
      rw [List.take_of_length_le (l := b) oM, List.drop_replicate]
      simp only [List.take_zero, List.nil_append, Nat.zero_add, h]
    rw [e1, List.set_append_right _ _ oM, h, Nat.sub_self, show 16 - n = (15 - n) + 1 by omega, List.replicate_succ, List.set_cons_zero]
    rfl
  have hl : (b ++ ([1#8] ++ List.replicate (15 - n) 0#8)).length = 16 := by simp; omega
  rw [e]
  have h1 := vw_take16 _ 16 (show 16 ≤ (b ++ ([1#8] ++ List.replicate (15 - n) 0#8)).length by omega)
  rw [List.take_of_length_le oM] at h1
  have h2 : low (List.take 8 (List.drop 8 (b ++ ([1#8] ++ List.replicate (15 - n) 0#8)))) 8 = low (List.drop 8 (b ++ ([1#8] ++ List.replicate (15 - n) 0#8))) 8 := by
    rw [List.take_of_length_le (by rw [List.length_drop]; omega)]
  rw [h2, v3_def]
  have h3 : (0#64).toNat = 0 := rfl
  rw [h3]
  unfold pv
  have h4 : vw (b ++ ([1#8] ++ List.replicate (15 - n) 0#8)) = vw b + 256 ^ b.length := by
    have h5 : vw (List.replicate (15 - n) 0#8) = 0 := vw_rep0 _
    rw [vw_app, vw_app, h5, vw_cons, vw_nil]; simp
  rw [h4] at h1
  omega
set_option maxHeartbeats 4000000 in
theorem piece_f (b : List (BitVec 8)) (A : Option Addr) (n : Nat) (c : Nat) (w : World) (hO : HOK [.rd A 1 n c (b.map b8)] w) (hx : b.length = n) (hn : n ≤ 16) : Calls Tryz.prog 80 [(.slice A n c)].toArray w (Ret (T := BitVec 64 × BitVec 64 × BitVec 64) [] w (fun ⟨x, y, z⟩ => v3 x y z = pv b ∧ z.toNat ≤ 1) (fun ⟨x, y, z⟩ => (.tuple [(b64 x), (b64 y), (b64 z)].toArray)) (fun ⟨x, y, z⟩ => [])) := by
 have hcop : (cop (List.replicate 16 0#8) 0 b (min n 16)).length = 16 := by unfold cop; simp; omega
 have hcop2 : (List.set (cop (List.replicate 16 0#8) 0 b (min n 16)) (min n 16) (1#8)).length = 16 := by rw [List.length_set]; exact hcop
 have hcop3 : (List.take 8 (List.drop 8 (List.set (cop (List.replicate 16 0#8) 0 b (min n 16)) (min n 16) (1#8)))).length = 8 := by rw [List.length_take, List.length_drop, hcop2]; rfl
 have hF : Wid Fence.wide := wid_wide
 refine enter (c := _) Tryz.func80 rfl [] _ [.rd A 1 n c (b.map b8)] (by rw [Tryz.ntmps80]; rfl) (own_rds hO rfl) ?_
 rw [Tryz.ntmps80]
 refine lE [(0, (.slice A n c))] ?_
 refine lH [0] [.rd A 1 n c (b.map b8)] ?_
 refine lT ?_
 refine lS ?_
 refine lS ?_
 refine lS ?_
 refine L_nil ?_
 refine T_seq ?_
 refine lT ?_
 refine lM ?_
 refine lO (pr_len_sl Tryz.underlying27 rfl rfl) ?_
 refine lO (pr_cmp (bo := .eql) (nc_eq (a := n) (b := 16)) rfl rfl rfl rfl) ?_
 refine L_nil ?_
 refine T_cond (n == 16) rfl (fun hc_1 => ?_) (fun hc_1 => ?_)
 ·have hc_1 : n = 16 := by simpa using hc_1
  refine T_seq ?_
  refine T_regD [.rd A 1 n c (b.map b8)] 8 8 #[false, false, false, false, false, false, false, false] hF kr kr ?_
  refine D_pure (i := 0) [0] rfl kr rfl (pr_move rfl rfl) (.inr rfl) rfl rfl ?_
  refine D_pure (i := 2) [0] rfl kr rfl (pr_move rfl rfl) (.inr rfl) rfl rfl ?_
  refine D_join (T := Unit) (fun _ => True) (fun _ => [(2, (b64 (low b 8))), (3, (b64 (low (List.drop 8 b) 8))), (4, (b64 (1#64)))]) (fun _ => [.rd A 1 n c (b.map b8)]) ?_ ?_
  ·refine D_all [1, 3] kr (by simp) ⟨⟨_, rfl, rfl, ?_⟩, ⟨_, rfl, rfl, ?_⟩, trivial⟩
   ·refine id (op_cn (fun w hw => low_f b 8 A n c w (hok_cons ((src_rd 0 rfl) w hw) (hok_nil w)) sd sd sd) (enters_of Tryz.func68 kr rfl) rfl rfl rfl rfl rfl (fun t7 q8 => ?_))
    refine D_on [0] rfl ?_
    refine D_one 3 _ rfl kr rfl (op_slice_rd (l := 8) (u := n) 0 rfl sd sd Tryz.underlying27 kr rfl rfl ⟨_, rfl⟩ rfl rfl rfl (fun B9 => ?_))
    refine T_as 0 _ (.rd B9 1 (n - 8) (c - 8) ((List.drop 8 b).map b8)) rfl (by congr 1; first | rfl | (rw [List.take_of_length_le (by simp; omega)]; simp)) ?_
    refine D_on [1] rfl ?_
    refine D_one 4 _ rfl kr rfl (op_cn (fun w hw => low_f (List.drop 8 b) 8 B9 (n - 8) (c - 8) w (hok_cons ((src_rd 0 rfl) w hw) (hok_nil w)) sd sd sd) (enters_of Tryz.func68 kr rfl) rfl rfl rfl rfl rfl (fun t10 q11 => ?_))
    refine D_on [1] rfl ?_
    refine D_pure (i := 5) [1] rfl kr rfl (pr_assign rfl rfl) (.inr rfl) rfl rfl ?_
    refine D_pure (i := 6) [1] rfl kr rfl (pr_assign rfl rfl) (.inr rfl) rfl rfl ?_
    refine D_pure (i := 7) [1] rfl kr rfl (pr_assign rfl rfl) (.inr rfl) rfl rfl ?_
    refine D_done kr ?_
    exact T_meet () trivial (sc rfl (sc rfl (sc rfl sn))) [1] ⟨by decide, rfl⟩
   refine id (op_slice_rd (l := 8) (u := n) 0 rfl sd sd Tryz.underlying27 kr rfl rfl ⟨_, rfl⟩ rfl rfl rfl (fun B12 => ?_))
   refine T_as 0 _ (.rd B12 1 (n - 8) (c - 8) ((List.drop 8 b).map b8)) rfl (by congr 1; first | rfl | (rw [List.take_of_length_le (by simp; omega)]; simp)) ?_
   refine D_on [1] rfl ?_
   refine D_one 1 _ rfl kr rfl (op_cn (fun w hw => low_f b 8 A n c w (hok_cons ((src_rd 1 rfl) w hw) (hok_nil w)) sd sd sd) (enters_of Tryz.func68 kr rfl) rfl rfl rfl rfl rfl (fun t13 q14 => ?_))
   refine D_on [1] rfl ?_
   refine D_one 4 _ rfl kr rfl (op_cn (fun w hw => low_f (List.drop 8 b) 8 B12 (n - 8) (c - 8) w (hok_cons ((src_rd 0 rfl) w hw) (hok_nil w)) sd sd sd) (enters_of Tryz.func68 kr rfl) rfl rfl rfl rfl rfl (fun t15 q16 => ?_))
   refine D_on [1] rfl ?_
   refine D_pure (i := 5) [1] rfl kr rfl (pr_assign rfl rfl) (.inr rfl) rfl rfl ?_
   refine D_pure (i := 6) [1] rfl kr rfl (pr_assign rfl rfl) (.inr rfl) rfl rfl ?_
   refine D_pure (i := 7) [1] rfl kr rfl (pr_assign rfl rfl) (.inr rfl) rfl rfl ?_
   refine D_done kr ?_
   exact T_meet () trivial (sc rfl (sc rfl (sc rfl sn))) [1] ⟨by decide, rfl⟩
  rintro ⟨⟩ -
  refine lE [(2, (b64 (low b 8))), (3, (b64 (low (List.drop 8 b) 8))), (4, (b64 (1#64)))] ?_
  refine lH [0] [.rd A 1 n c (b.map b8)] ?_
  refine T_ret ?_
  exact T_fin ((low b 8), (low (List.drop 8 b) 8), 1#64) (by exact piece_full b oM) (res3 rfl rfl rfl rfl) [] ⟨by decide, rfl⟩ rfl
 have hc_1 : ¬ n = 16 := by simpa using hc_1
 refine T_skip ?_
 refine lT ?_
 refine L_op rfl (op_alloc (z := .agg ((List.replicate 16 0#8).map b8).toArray) (zs := ((List.replicate 16 0#8).map b8)) kr rfl rfl rfl rfl (fun g17 => ?_))
 refine lN ?_
 refine lO (pr_sla (l := 0) (u := 16) (m := 0) sd sd sd rfl Tryz.underlying62 (z := 1) kr rfl rfl rfl rfl) ?_
 refine lM ?_
 refine L_op rfl (op_copy (cs' := ((cop (List.replicate 16 0#8) 0 b (min n 16)).map b8)) 0 rfl Tryz.underlying27 kr (src_rd 1 rfl) (all8_one _) sd (cop_map _ _ _ _) rfl rfl rfl rfl rfl ?_)
 refine lO (pr_ixa (j := min n 16) (m' := min n 16) sd oM Tryz.underlying62 (z := 1) kr rfl rfl rfl) ?_
 refine L_op rfl (op_store (vs := [(b8 (1#8))]) (cs' := ((List.set (cop (List.replicate 16 0#8) 0 b (min n 16)) (min n 16) (1#8)).map b8)) 0 rfl rfl kr (one_one rfl) (stl sd) (splice_map (f := b8) sd) rfl rfl rfl rfl ?_)
 refine L_nil ?_
 refine T_seq ?_
 refine T_regD [.blk g17 62 ((List.set (cop (List.replicate 16 0#8) 0 b (min n 16)) (min n 16) (1#8)).map b8), .rd A 1 n c (b.map b8)] 7 7 #[false, false, false, false, false, false, false] hF kr kr ?_
 refine D_pure (i := 0) [0, 1] rfl kr rfl (pr_sla (l := 0) (u := 16) (m := 0) sd sd sd rfl Tryz.underlying62 (z := 1) kr rfl rfl rfl rfl) (.inr rfl) rfl rfl ?_
 refine D_pure (i := 2) [0, 1] rfl kr rfl (pr_sla (l := 8) (u := 16) (m := 8) sd sd sd rfl Tryz.underlying62 (z := 1) kr rfl rfl ⟨_, rfl⟩ rfl) (.inr rfl) rfl rfl ?_
 refine D_one 1 _ rfl kr rfl (op_cn (fun w hw => low_f (List.set (cop (List.replicate 16 0#8) 0 b (min n 16)) (min n 16) (1#8)) 8 (some ⟨g17, 0, none⟩) 16 16 w (hok_cons ((src_full (z := 1) 0 rfl sd sd sd) w hw) (hok_nil w)) sd sd sd) (enters_of Tryz.func68 kr rfl) rfl rfl rfl rfl rfl (fun t18 q19 => ?_))
 refine D_on [0, 1] rfl ?_
 refine D_one 3 _ rfl kr rfl (op_cn (fun w hw => low_f (List.take 8 (List.drop 8 (List.set (cop (List.replicate 16 0#8) 0 b (min n 16)) (min n 16) (1#8)))) 8 (some ⟨g17, 8, none⟩) 8 8 w (hok_cons ((src_sub 0 rfl sd sd sd) w hw) (hok_nil w)) sd sd sd) (enters_of Tryz.func68 kr rfl) rfl rfl rfl rfl rfl (fun t20 q21 => ?_))
 refine D_on [0, 1] rfl ?_
 refine D_pure (i := 4) [0, 1] rfl kr rfl (pr_assign rfl rfl) (.inr rfl) rfl rfl ?_
 refine D_pure (i := 5) [0, 1] rfl kr rfl (pr_assign rfl rfl) (.inr rfl) rfl rfl ?_
 refine D_pure (i := 6) [0, 1] rfl kr rfl (pr_assign rfl rfl) (.inr rfl) rfl rfl ?_
 refine D_done kr ?_
 refine T_ret ?_
 exact T_fin ((low (List.set (cop (List.replicate 16 0#8) 0 b (min n 16)) (min n 16) (1#8)) 8), (low (List.take 8 (List.drop 8 (List.set (cop (List.replicate 16 0#8) 0 b (min n 16)) (min n 16) (1#8)))) 8), 0#64) (by exact piece_short b n hx oM) (res3 rfl rfl rfl rfl) [] ⟨by decide, rfl⟩ rfl
theorem times_bits {a0 a1 a2 r0 r1 p0 p1 p1' p2' p2'' p3' k00 k01 k10 k11 k20 k21 : BitVec 64}
    (m00 : 18446744073709551616 * k00.toNat + p0.toNat = a0.toNat * r0.toNat + (0#64).toNat + (0#64).toNat) (m01 : 18446744073709551616 * k01.toNat + p1.toNat = a0.toNat * r1.toNat + k00.toNat + (0#64).toNat)
    (m10 : 18446744073709551616 * k10.toNat + p1'.toNat = a1.toNat * r0.toNat + (0#64).toNat + p1.toNat) (m11 : 18446744073709551616 * k11.toNat + p2'.toNat = a1.toNat * r1.toNat + k10.toNat + (0#64 + k01).toNat)
    (m20 : 18446744073709551616 * k20.toNat + p2''.toNat = a2.toNat * r0.toNat + (0#64).toNat + p2'.toNat) (m21 : 18446744073709551616 * k21.toNat + p3'.toNat = a2.toNat * r1.toNat + k20.toNat + (0#64 + k11).toNat) :
    p0.toNat + 18446744073709551616 * p1'.toNat + 340282366920938463463374607431768211456 * p2''.toNat + 6277101735386680763835789423207666416102355444464034512896 * p3'.toNat + 115792089237316195423570985008687907853269984665640564039457584007913129639936 * (0#64 + k21).toNat = v3 a0 a1 a2 * (r0.toNat + 18446744073709551616 * r1.toNat) := by
  have e0 : (0#64).toNat = 0 := rfl
  rw [BitVec.zero_add] at *
  rw [e0] at m00 m01 m10 m20
  rw [v3_def]
  exact rows_law m00 m01 rfl m10 m11 rfl m20 m21 rfl
theorem times_top {b0 b1 b2 p0 p1 p2 p3 p4 : BitVec 64} (h : v3 b0 b1 b2 = v3 p0 p1 (p2 &&& 3#64) + v3 (p2 &&& ~~~3#64) p3 p4) (h4 : p4.toNat = 0) : b2.toNat < 64 := by
  simp only [v3_def, and3, andnot3, h4] at h
  have h0 := p0.isLt
  have h1 := p1.isLt
  have h2 := p2.isLt
  have h3 := p3.isLt
  omega
theorem top_zero {p0 p1 p2 p3 p4 : BitVec 64} {A R : Nat} (hQ : p0.toNat + 18446744073709551616 * p1.toNat + 340282366920938463463374607431768211456 * p2.toNat + 6277101735386680763835789423207666416102355444464034512896 * p3.toNat + 115792089237316195423570985008687907853269984665640564039457584007913129639936 * p4.toNat = A * R)
    (hb : A * R < 2722258935367507707706996859454145691648 * 21267647932558653966460912964485513216) : p4.toNat = 0 := by omega
theorem side_a (x : BitVec 64) {p4 : BitVec 64} (h4 : p4.toNat = 0) : (x &&& 3#64).toNat + p4.toNat + 1 < 18446744073709551616 := by rw [and3, h4]; omega
theorem side_b {b0 b1 b2 p0 p1 p2 p3 p4 : BitVec 64} (h : v3 b0 b1 b2 = v3 p0 p1 (p2 &&& 3#64) + v3 (p2 &&& ~~~3#64) p3 p4) (h4 : p4.toNat = 0) : b2.toNat + (p4 >>> 2).toNat + 1 < 18446744073709551616 := by
  have h1 := times_top h h4
  rw [shr2, h4]; omega
theorem times_fin {p0 p1 p2 p3 p4 b0 b1 b2 c0 c1 c2 : BitVec 64} {A R : Nat} (hQ : p0.toNat + 18446744073709551616 * p1.toNat + 340282366920938463463374607431768211456 * p2.toNat + 6277101735386680763835789423207666416102355444464034512896 * p3.toNat + 115792089237316195423570985008687907853269984665640564039457584007913129639936 * p4.toNat = A * R)
    (hb : A * R < 2722258935367507707706996859454145691648 * 21267647932558653966460912964485513216) (h1 : v3 b0 b1 b2 = v3 p0 p1 (p2 &&& 3#64) + v3 (p2 &&& ~~~3#64) p3 p4) (h2 : v3 c0 c1 c2 = v3 b0 b1 b2 + v3 (((p2 &&& ~~~3#64) >>> 2) ||| (p3 <<< 62)) ((p3 >>> 2) ||| (p4 <<< 62)) (p4 >>> 2)) :
    v3 c0 c1 c2 % polyP = A * R % polyP ∧ v3 c0 c1 c2 < 1573805947009340393518107559371927977984 := by
  obtain ⟨h3, h4⟩ := fold_law hQ (h2.trans (by rw [h1]))
  refine ⟨h3, ?_⟩
  omega
set_option maxHeartbeats 4000000 in
theorem times_f (a0 : BitVec 64) (a1 : BitVec 64) (a2 : BitVec 64) (r0 : BitVec 64) (r1 : BitVec 64) (w : World) (hO : HOK [] w) (ha : v3 a0 a1 a2 < 2722258935367507707706996859454145691648) (hr : (r0.toNat + 18446744073709551616 * r1.toNat) < 21267647932558653966460912964485513216) : Calls Tryz.prog 81 [(.agg [(b64 a0), (b64 a1), (b64 a2)].toArray), (.agg [(b64 r0), (b64 r1)].toArray)].toArray w (Ret (T := BitVec 64 × BitVec 64 × BitVec 64) [] w (fun ⟨b0, b1, b2⟩ => v3 b0 b1 b2 % polyP = v3 a0 a1 a2 * (r0.toNat + 18446744073709551616 * r1.toNat) % polyP ∧ v3 b0 b1 b2 < 1573805947009340393518107559371927977984) (fun ⟨b0, b1, b2⟩ => (.agg [(b64 b0), (b64 b1), (b64 b2)].toArray)) (fun ⟨b0, b1, b2⟩ => [])) := by
 have hF : Wid Fence.wide := wid_wide
 refine enter (c := _) Tryz.func81 rfl [] _ [] (by rw [Tryz.ntmps81]; rfl) (own_rds hO rfl) ?_
 rw [Tryz.ntmps81]
 refine lE [(0, (.agg [(b64 a0), (b64 a1), (b64 a2)].toArray)), (1, (.agg [(b64 r0), (b64 r1)].toArray))] ?_
 refine lH [] [] ?_
 refine lT ?_
 refine L_op rfl (op_box (zs := [(b64 a0), (b64 a1), (b64 a2)]) rfl rfl rfl rfl rfl (fun g1 => ?_))
 refine L_op rfl (op_box (zs := [(b64 r0), (b64 r1)]) rfl rfl rfl rfl rfl (fun g2 => ?_))
 refine L_op rfl (op_alloc (z := .agg [(b64 (0#64)), (b64 (0#64)), (b64 (0#64))].toArray) (zs := [(b64 (0#64)), (b64 (0#64)), (b64 (0#64))]) kr rfl rfl rfl rfl (fun g3 => ?_))
 refine L_nil ?_
 refine T_scope rfl ?_
 refine lT ?_
 refine L_op rfl (op_alloc (z := .agg [(b64 (0#64)), (b64 (0#64)), (b64 (0#64)), (b64 (0#64)), (b64 (0#64))].toArray) (zs := [(b64 (0#64)), (b64 (0#64)), (b64 (0#64)), (b64 (0#64)), (b64 (0#64))]) kr rfl rfl rfl rfl (fun g4 => ?_))
 refine L_nil ?_
 refine T_seq ?_
 refine T_label ?_
 refine T_seq ?_
 refine lT ?_
 refine lQ (ld_agg (ds := [(b64 a0), (b64 a1), (b64 a2)]) 3 rfl agg_all Tryz.underlying108 rfl kr rfl rfl) ?_
 refine lM ?_
 refine L_nil ?_
 refine T_block ?_
 refine T_rounds 3 ?_
 refine T_round ?_
 refine lT ?_
 refine lO (pr_cmp (bo := .lss) (nc_lt (a := 0) (b := 3)) rfl rfl rfl rfl) ?_
 refine L_nil ?_
 refine T_seq ?_
 refine T_cond_t rfl ?_
 refine T_skip ?_
 refine T_seq ?_
 refine T_block ?_
 refine lT ?_
 refine lM ?_
 refine lO (pr_ix (cs := [(b64 a0), (b64 a1), (b64 a2)]) (j := 0) sd rfl Tryz.underlying108 Tryz.underlying23 rfl kr rfl rfl rfl) ?_
 refine lS ?_
 refine lS ?_
 refine lN ?_
 refine lS ?_
 refine L_nil ?_
 refine T_seq ?_
 refine lT ?_
 refine lQ (ld_agg (ds := [(b64 r0), (b64 r1)]) 2 rfl agg_all Tryz.underlying106 rfl kr rfl rfl) ?_
 refine lM ?_
 refine L_nil ?_
 refine T_block ?_
 refine T_rounds 3 ?_
 refine T_round ?_
 refine lT ?_
 refine lO (pr_cmp (bo := .lss) (nc_lt (a := 0) (b := 2)) rfl rfl rfl rfl) ?_
 refine L_nil ?_
 refine T_seq ?_
 refine T_cond_t rfl ?_
 refine T_skip ?_
 refine T_seq ?_
 refine T_block ?_
 refine lT ?_
 refine lM ?_
 refine lO (pr_ix (cs := [(b64 r0), (b64 r1)]) (j := 0) sd rfl Tryz.underlying106 Tryz.underlying23 rfl kr rfl rfl rfl) ?_
 refine lS ?_
 refine lS ?_
 refine lN ?_
 refine lM ?_
 refine lM ?_
 refine L_op rfl (op_cn (fun w hw => mul64_f a0 r0 w (hok_nil w) ) (enters_of Tryz.func95 kr rfl) rfl rfl rfl rfl rfl (fun t5 q6 => ?_))
 obtain ⟨h7, l8⟩ := t5
 have q6 : 18446744073709551616 * h7.toNat + l8.toNat = a0.toNat * r0.toNat := q6
 refine lM ?_
 refine lO (pr_ext (vs := [(b64 h7), (b64 l8)]) rfl rfl rfl) ?_
 refine lO (pr_ext (vs := [(b64 h7), (b64 l8)]) rfl rfl rfl) ?_
 refine lS ?_
 refine lS ?_
 refine lN ?_
 refine lS ?_
 refine lN ?_
 refine lM ?_
 refine lM ?_
 obtain ⟨s9, d10, ha_11, hb_12, hv_13⟩ := add64_at l8 (0#64) (0#64) (by decide)
 refine lO (pr_extern hv_13 rfl rfl rfl) ?_
 refine lM ?_
 refine lO (pr_ext (vs := [(b64 s9), (b64 d10)]) rfl rfl rfl) ?_
 refine lO (pr_ext (vs := [(b64 s9), (b64 d10)]) rfl rfl rfl) ?_
 refine lS ?_
 refine lS ?_
 refine lN ?_
 refine lM ?_
 refine lM ?_
 refine lO (pr_add (add64 _ _) rfl rfl rfl) ?_
 refine lS ?_
 refine lN ?_
 refine lM ?_
 refine lM ?_
 refine lO (pr_add (na_i64 (a := 0) (b := 0) sd) rfl rfl rfl) ?_
 refine lM ?_
 refine lM ?_
 refine lO (pr_add (na_i64 (a := 0) (b := 0) sd) rfl rfl rfl) ?_
 refine lO (pr_ixa (j := 0) (m' := 0) sd oM Tryz.underlying126 (z := 1) kr rfl rfl rfl) ?_
 refine lQ (ld_blk 0 rfl rfl Tryz.underlying23 rfl rfl rfl) ?_
 refine lM ?_
 obtain ⟨s14, d15, ha_16, hb_17, hv_18⟩ := add64_at (0#64) s9 (0#64) (by decide)
 refine lO (pr_extern hv_18 rfl rfl rfl) ?_
 refine lM ?_
 refine lO (pr_ext (vs := [(b64 s14), (b64 d15)]) rfl rfl rfl) ?_
 refine lO (pr_ext (vs := [(b64 s14), (b64 d15)]) rfl rfl rfl) ?_
 refine lO (pr_ixa (j := 0) (m' := 0) sd oM Tryz.underlying126 (z := 1) kr rfl rfl rfl) ?_
 refine L_op rfl (op_store (vs := [(b64 s14)]) (cs' := [(b64 s14), (b64 (0#64)), (b64 (0#64)), (b64 (0#64)), (b64 (0#64))]) 0 rfl rfl kr (one_one rfl) (by simp) rfl rfl rfl rfl rfl ?_)
 refine lS ?_
 refine L_nil ?_
 refine lR ?_
 refine lM ?_
 refine lM ?_
 refine lO (pr_add (add64 _ _) rfl rfl rfl) ?_
 refine lS ?_
 refine L_nil ?_
 refine lR ?_
 refine lO (pr_add (na_i64 (a := 0) (b := 1) sd) rfl rfl rfl) ?_
 refine lM ?_
 refine L_nil ?_
 refine T_round ?_
 refine lT ?_
 refine lO (pr_cmp (bo := .lss) (nc_lt (a := 1) (b := 2)) rfl rfl rfl rfl) ?_
 refine L_nil ?_
 refine T_seq ?_
 refine T_cond_t rfl ?_
 refine T_skip ?_
 refine T_seq ?_
 refine T_block ?_
 refine lT ?_
 refine lM ?_
 refine lO (pr_ix (cs := [(b64 r0), (b64 r1)]) (j := 1) sd rfl Tryz.underlying106 Tryz.underlying23 rfl kr rfl rfl rfl) ?_
 refine lS ?_
 refine lS ?_
 refine lN ?_
 refine lM ?_
 refine lM ?_
 refine L_op rfl (op_cn (fun w hw => mul64_f a0 r1 w (hok_nil w) ) (enters_of Tryz.func95 kr rfl) rfl rfl rfl rfl rfl (fun t19 q20 => ?_))
 obtain ⟨h21, l22⟩ := t19
 have q20 : 18446744073709551616 * h21.toNat + l22.toNat = a0.toNat * r1.toNat := q20
 refine lM ?_
 refine lO (pr_ext (vs := [(b64 h21), (b64 l22)]) rfl rfl rfl) ?_
 refine lO (pr_ext (vs := [(b64 h21), (b64 l22)]) rfl rfl rfl) ?_
 refine lS ?_
 refine lS ?_
 refine lN ?_
 refine lS ?_
 refine lN ?_
 refine lM ?_
 refine lM ?_
 obtain ⟨s23, d24, ha_25, hb_26, hv_27⟩ := add64_at l22 ((h7 + d10) + d15) (0#64) (by decide)
 refine lO (pr_extern hv_27 rfl rfl rfl) ?_
 refine lM ?_
 refine lO (pr_ext (vs := [(b64 s23), (b64 d24)]) rfl rfl rfl) ?_
 refine lO (pr_ext (vs := [(b64 s23), (b64 d24)]) rfl rfl rfl) ?_
 refine lS ?_
 refine lS ?_
 refine lN ?_
 refine lM ?_
 refine lM ?_
 refine lO (pr_add (add64 _ _) rfl rfl rfl) ?_
 refine lS ?_
 refine lN ?_
 refine lM ?_
 refine lM ?_
 refine lO (pr_add (na_i64 (a := 0) (b := 1) sd) rfl rfl rfl) ?_
 refine lM ?_
 refine lM ?_
 refine lO (pr_add (na_i64 (a := 0) (b := 1) sd) rfl rfl rfl) ?_
 refine lO (pr_ixa (j := 1) (m' := 1) sd oM Tryz.underlying126 (z := 1) kr rfl rfl rfl) ?_
 refine lQ (ld_blk 0 rfl rfl Tryz.underlying23 rfl rfl rfl) ?_
 refine lM ?_
 obtain ⟨s28, d29, ha_30, hb_31, hv_32⟩ := add64_at (0#64) s23 (0#64) (by decide)
 refine lO (pr_extern hv_32 rfl rfl rfl) ?_
 refine lM ?_
 refine lO (pr_ext (vs := [(b64 s28), (b64 d29)]) rfl rfl rfl) ?_
 refine lO (pr_ext (vs := [(b64 s28), (b64 d29)]) rfl rfl rfl) ?_
 refine lO (pr_ixa (j := 1) (m' := 1) sd oM Tryz.underlying126 (z := 1) kr rfl rfl rfl) ?_
 refine L_op rfl (op_store (vs := [(b64 s28)]) (cs' := [(b64 s14), (b64 s28), (b64 (0#64)), (b64 (0#64)), (b64 (0#64))]) 0 rfl rfl kr (one_one rfl) (by simp) rfl rfl rfl rfl rfl ?_)
 refine lS ?_
 refine L_nil ?_
 refine lR ?_
 refine lM ?_
 refine lM ?_
 refine lO (pr_add (add64 _ _) rfl rfl rfl) ?_
 refine lS ?_
 refine L_nil ?_
 refine lR ?_
 refine lO (pr_add (na_i64 (a := 1) (b := 1) sd) rfl rfl rfl) ?_
 refine lM ?_
 refine L_nil ?_
 refine T_round ?_
 refine lT ?_
 refine lO (pr_cmp (bo := .lss) (nc_lt (a := 2) (b := 2)) rfl rfl rfl rfl) ?_
 refine L_nil ?_
 refine T_seq ?_
 refine T_cond_f rfl ?_
 refine T_exit rfl ?_
 refine lT ?_
 refine lM ?_
 refine lO (pr_add (na_i64 (a := 0) (b := 2) sd) rfl rfl rfl) ?_
 refine lO (pr_ixa (j := 2) (m' := 2) sd oM Tryz.underlying126 (z := 1) kr rfl rfl rfl) ?_
 refine lQ (ld_blk 0 rfl rfl Tryz.underlying23 rfl rfl rfl) ?_
 refine lM ?_
 refine lO (pr_add (add64 (0#64) _) rfl rfl rfl) ?_
 refine lO (pr_ixa (j := 2) (m' := 2) sd oM Tryz.underlying126 (z := 1) kr rfl rfl rfl) ?_
 refine L_op rfl (op_store (vs := [(b64 (0#64 + ((h21 + d24) + d29)))]) (cs' := [(b64 s14), (b64 s28), (b64 (0#64 + ((h21 + d24) + d29))), (b64 (0#64)), (b64 (0#64))]) 0 rfl rfl kr (one_one rfl) (by simp) rfl rfl rfl rfl rfl ?_)
 refine lN ?_
 refine lM ?_
 refine lO (pr_cmp (bo := .eql) (nc_eq (a := 0) (b := 2)) rfl rfl rfl rfl) ?_
 refine L_nil ?_
 refine T_cond_f rfl ?_
 refine T_skip ?_
 refine lR ?_
 refine lO (pr_add (na_i64 (a := 0) (b := 1) sd) rfl rfl rfl) ?_
 refine lM ?_
 refine L_nil ?_
 refine T_round ?_
 refine lT ?_
 refine lO (pr_cmp (bo := .lss) (nc_lt (a := 1) (b := 3)) rfl rfl rfl rfl) ?_
 refine L_nil ?_
 refine T_seq ?_
 refine T_cond_t rfl ?_
 refine T_skip ?_
 refine T_seq ?_
 refine T_block ?_
 refine lT ?_
 refine lM ?_
 refine lO (pr_ix (cs := [(b64 a0), (b64 a1), (b64 a2)]) (j := 1) sd rfl Tryz.underlying108 Tryz.underlying23 rfl kr rfl rfl rfl) ?_
 refine lS ?_
 refine lS ?_
 refine lN ?_
 refine lS ?_
 refine L_nil ?_
 refine T_seq ?_
 refine lT ?_
 refine lQ (ld_agg (ds := [(b64 r0), (b64 r1)]) 2 rfl agg_all Tryz.underlying106 rfl kr rfl rfl) ?_
 refine lM ?_
 refine L_nil ?_
 refine T_block ?_
 refine T_rounds 3 ?_
 refine T_round ?_
 refine lT ?_
 refine lO (pr_cmp (bo := .lss) (nc_lt (a := 0) (b := 2)) rfl rfl rfl rfl) ?_
 refine L_nil ?_
 refine T_seq ?_
 refine T_cond_t rfl ?_
 refine T_skip ?_
 refine T_seq ?_
 refine T_block ?_
 refine lT ?_
 refine lM ?_
 refine lO (pr_ix (cs := [(b64 r0), (b64 r1)]) (j := 0) sd rfl Tryz.underlying106 Tryz.underlying23 rfl kr rfl rfl rfl) ?_
 refine lS ?_
 refine lS ?_
 refine lN ?_
 refine lM ?_
 refine lM ?_
 refine L_op rfl (op_cn (fun w hw => mul64_f a1 r0 w (hok_nil w) ) (enters_of Tryz.func95 kr rfl) rfl rfl rfl rfl rfl (fun t33 q34 => ?_))
 obtain ⟨h35, l36⟩ := t33
 have q34 : 18446744073709551616 * h35.toNat + l36.toNat = a1.toNat * r0.toNat := q34
 refine lM ?_
 refine lO (pr_ext (vs := [(b64 h35), (b64 l36)]) rfl rfl rfl) ?_
 refine lO (pr_ext (vs := [(b64 h35), (b64 l36)]) rfl rfl rfl) ?_
 refine lS ?_
 refine lS ?_
 refine lN ?_
 refine lS ?_
 refine lN ?_
 refine lM ?_
 refine lM ?_
 obtain ⟨s37, d38, ha_39, hb_40, hv_41⟩ := add64_at l36 (0#64) (0#64) (by decide)
 refine lO (pr_extern hv_41 rfl rfl rfl) ?_
 refine lM ?_
 refine lO (pr_ext (vs := [(b64 s37), (b64 d38)]) rfl rfl rfl) ?_
 refine lO (pr_ext (vs := [(b64 s37), (b64 d38)]) rfl rfl rfl) ?_
 refine lS ?_
 refine lS ?_
 refine lN ?_
 refine lM ?_
 refine lM ?_
 refine lO (pr_add (add64 _ _) rfl rfl rfl) ?_
 refine lS ?_
 refine L_nil ?_
 refine lE [(3, (.pointer (some ⟨g2, 0, none⟩))), (4, (.pointer (some ⟨g3, 0, none⟩))), (5, (.pointer (some ⟨g4, 0, none⟩))), (6, (.int .i64 ((1 : Nat) : Int))), (7, (b64 a1)), (9, (.int .i64 ((0 : Nat) : Int))), (11, (b64 (h35 + d38))), (12, (b64 s37)), (17, (.agg [(b64 a0), (b64 a1), (b64 a2)].toArray)), (18, (.int .i64 ((1 : Nat) : Int))), (22, (.agg [(b64 r0), (b64 r1)].toArray)), (23, (.int .i64 ((0 : Nat) : Int)))] ?_
 refine lH [0, 1, 2, 3] [.blk g4 126 [(b64 s14), (b64 s28), (b64 (0#64 + ((h21 + d24) + d29))), (b64 (0#64)), (b64 (0#64))], .blk g3 108 [(b64 (0#64)), (b64 (0#64)), (b64 (0#64))], .blk g2 106 [(b64 r0), (b64 r1)], .blk g1 108 [(b64 a0), (b64 a1), (b64 a2)]] ?_
 refine lT ?_
 refine lM ?_
 refine lM ?_
 refine lO (pr_add (na_i64 (a := 1) (b := 0) sd) rfl rfl rfl) ?_
 refine lM ?_
 refine lM ?_
 refine lO (pr_add (na_i64 (a := 1) (b := 0) sd) rfl rfl rfl) ?_
 refine lO (pr_ixa (j := 1) (m' := 1) sd oM Tryz.underlying126 (z := 1) kr rfl rfl rfl) ?_
 refine lQ (ld_blk 0 rfl rfl Tryz.underlying23 rfl rfl rfl) ?_
 refine lM ?_
 obtain ⟨s42, d43, ha_44, hb_45, hv_46⟩ := add64_at s28 s37 (0#64) (by decide)
 refine lO (pr_extern hv_46 rfl rfl rfl) ?_
 refine lM ?_
 refine lO (pr_ext (vs := [(b64 s42), (b64 d43)]) rfl rfl rfl) ?_
 refine lO (pr_ext (vs := [(b64 s42), (b64 d43)]) rfl rfl rfl) ?_
 refine lO (pr_ixa (j := 1) (m' := 1) sd oM Tryz.underlying126 (z := 1) kr rfl rfl rfl) ?_
 refine L_op rfl (op_store (vs := [(b64 s42)]) (cs' := [(b64 s14), (b64 s42), (b64 (0#64 + ((h21 + d24) + d29))), (b64 (0#64)), (b64 (0#64))]) 0 rfl rfl kr (one_one rfl) (by simp) rfl rfl rfl rfl rfl ?_)
 refine lS ?_
 refine L_nil ?_
 refine lR ?_
 refine lM ?_
 refine lM ?_
 refine lO (pr_add (add64 _ _) rfl rfl rfl) ?_
 refine lS ?_
 refine L_nil ?_
 refine lR ?_
 refine lO (pr_add (na_i64 (a := 0) (b := 1) sd) rfl rfl rfl) ?_
 refine lM ?_
 refine L_nil ?_
 refine T_round ?_
 refine lT ?_
 refine lO (pr_cmp (bo := .lss) (nc_lt (a := 1) (b := 2)) rfl rfl rfl rfl) ?_
 refine L_nil ?_
 refine T_seq ?_
 refine T_cond_t rfl ?_
 refine T_skip ?_
 refine T_seq ?_
 refine T_block ?_
 refine lT ?_
 refine lM ?_
 refine lO (pr_ix (cs := [(b64 r0), (b64 r1)]) (j := 1) sd rfl Tryz.underlying106 Tryz.underlying23 rfl kr rfl rfl rfl) ?_
 refine lS ?_
 refine lS ?_
 refine lN ?_
 refine lM ?_
 refine lM ?_
 refine L_op rfl (op_cn (fun w hw => mul64_f a1 r1 w (hok_nil w) ) (enters_of Tryz.func95 kr rfl) rfl rfl rfl rfl rfl (fun t47 q48 => ?_))
 obtain ⟨h49, l50⟩ := t47
 have q48 : 18446744073709551616 * h49.toNat + l50.toNat = a1.toNat * r1.toNat := q48
 refine lM ?_
 refine lO (pr_ext (vs := [(b64 h49), (b64 l50)]) rfl rfl rfl) ?_
 refine lO (pr_ext (vs := [(b64 h49), (b64 l50)]) rfl rfl rfl) ?_
 refine lS ?_
 refine lS ?_
 refine lN ?_
 refine lS ?_
 refine lN ?_
 refine lM ?_
 refine lM ?_
 obtain ⟨s51, d52, ha_53, hb_54, hv_55⟩ := add64_at l50 ((h35 + d38) + d43) (0#64) (by decide)
 refine lO (pr_extern hv_55 rfl rfl rfl) ?_
 refine lM ?_
 refine lO (pr_ext (vs := [(b64 s51), (b64 d52)]) rfl rfl rfl) ?_
 refine lO (pr_ext (vs := [(b64 s51), (b64 d52)]) rfl rfl rfl) ?_
 refine lS ?_
 refine lS ?_
 refine lN ?_
 refine lM ?_
 refine lM ?_
 refine lO (pr_add (add64 _ _) rfl rfl rfl) ?_
 refine lS ?_
 refine lN ?_
 refine lM ?_
 refine lM ?_
 refine lO (pr_add (na_i64 (a := 1) (b := 1) sd) rfl rfl rfl) ?_
 refine lM ?_
 refine lM ?_
 refine lO (pr_add (na_i64 (a := 1) (b := 1) sd) rfl rfl rfl) ?_
 refine lO (pr_ixa (j := 2) (m' := 2) sd oM Tryz.underlying126 (z := 1) kr rfl rfl rfl) ?_
 refine lQ (ld_blk 0 rfl rfl Tryz.underlying23 rfl rfl rfl) ?_
 refine lM ?_
 obtain ⟨s56, d57, ha_58, hb_59, hv_60⟩ := add64_at (0#64 + ((h21 + d24) + d29)) s51 (0#64) (by decide)
 refine lO (pr_extern hv_60 rfl rfl rfl) ?_
 refine lM ?_
 refine lO (pr_ext (vs := [(b64 s56), (b64 d57)]) rfl rfl rfl) ?_
 refine lO (pr_ext (vs := [(b64 s56), (b64 d57)]) rfl rfl rfl) ?_
 refine lO (pr_ixa (j := 2) (m' := 2) sd oM Tryz.underlying126 (z := 1) kr rfl rfl rfl) ?_
 refine L_op rfl (op_store (vs := [(b64 s56)]) (cs' := [(b64 s14), (b64 s42), (b64 s56), (b64 (0#64)), (b64 (0#64))]) 0 rfl rfl kr (one_one rfl) (by simp) rfl rfl rfl rfl rfl ?_)
 refine lS ?_
 refine L_nil ?_
 refine lR ?_
 refine lM ?_
 refine lM ?_
 refine lO (pr_add (add64 _ _) rfl rfl rfl) ?_
 refine lS ?_
 refine L_nil ?_
 refine lR ?_
 refine lO (pr_add (na_i64 (a := 1) (b := 1) sd) rfl rfl rfl) ?_
 refine lM ?_
 refine L_nil ?_
 refine T_round ?_
 refine lT ?_
 refine lO (pr_cmp (bo := .lss) (nc_lt (a := 2) (b := 2)) rfl rfl rfl rfl) ?_
 refine L_nil ?_
 refine T_seq ?_
 refine T_cond_f rfl ?_
 refine T_exit rfl ?_
 refine lT ?_
 refine lM ?_
 refine lO (pr_add (na_i64 (a := 1) (b := 2) sd) rfl rfl rfl) ?_
 refine lO (pr_ixa (j := 3) (m' := 3) sd oM Tryz.underlying126 (z := 1) kr rfl rfl rfl) ?_
 refine lQ (ld_blk 0 rfl rfl Tryz.underlying23 rfl rfl rfl) ?_
 refine lM ?_
 refine lO (pr_add (add64 (0#64) _) rfl rfl rfl) ?_
 refine lO (pr_ixa (j := 3) (m' := 3) sd oM Tryz.underlying126 (z := 1) kr rfl rfl rfl) ?_
 refine L_op rfl (op_store (vs := [(b64 (0#64 + ((h49 + d52) + d57)))]) (cs' := [(b64 s14), (b64 s42), (b64 s56), (b64 (0#64 + ((h49 + d52) + d57))), (b64 (0#64))]) 0 rfl rfl kr (one_one rfl) (by simp) rfl rfl rfl rfl rfl ?_)
 refine lN ?_
 refine lM ?_
 refine lO (pr_cmp (bo := .eql) (nc_eq (a := 1) (b := 2)) rfl rfl rfl rfl) ?_
 refine L_nil ?_
 refine T_cond_f rfl ?_
 refine T_skip ?_
 refine lR ?_
 refine lO (pr_add (na_i64 (a := 1) (b := 1) sd) rfl rfl rfl) ?_
 refine lM ?_
 refine L_nil ?_
 refine T_round ?_
 refine lT ?_
 refine lO (pr_cmp (bo := .lss) (nc_lt (a := 2) (b := 3)) rfl rfl rfl rfl) ?_
 refine L_nil ?_
 refine T_seq ?_
 refine T_cond_t rfl ?_
 refine T_skip ?_
 refine T_seq ?_
 refine T_block ?_
 refine lT ?_
 refine lM ?_
 refine lO (pr_ix (cs := [(b64 a0), (b64 a1), (b64 a2)]) (j := 2) sd rfl Tryz.underlying108 Tryz.underlying23 rfl kr rfl rfl rfl) ?_
 refine lS ?_
 refine lS ?_
 refine lN ?_
 refine lS ?_
 refine L_nil ?_
 refine T_seq ?_
 refine lT ?_
 refine lQ (ld_agg (ds := [(b64 r0), (b64 r1)]) 2 rfl agg_all Tryz.underlying106 rfl kr rfl rfl) ?_
 refine lM ?_
 refine L_nil ?_
 refine T_block ?_
 refine T_rounds 3 ?_
 refine T_round ?_
 refine lT ?_
 refine lO (pr_cmp (bo := .lss) (nc_lt (a := 0) (b := 2)) rfl rfl rfl rfl) ?_
 refine L_nil ?_
 refine T_seq ?_
 refine T_cond_t rfl ?_
 refine T_skip ?_
 refine T_seq ?_
 refine T_block ?_
 refine lT ?_
 refine lM ?_
 refine lO (pr_ix (cs := [(b64 r0), (b64 r1)]) (j := 0) sd rfl Tryz.underlying106 Tryz.underlying23 rfl kr rfl rfl rfl) ?_
 refine lS ?_
 refine lS ?_
 refine lN ?_
 refine lM ?_
 refine lM ?_
 refine L_op rfl (op_cn (fun w hw => mul64_f a2 r0 w (hok_nil w) ) (enters_of Tryz.func95 kr rfl) rfl rfl rfl rfl rfl (fun t61 q62 => ?_))
 obtain ⟨h63, l64⟩ := t61
 have q62 : 18446744073709551616 * h63.toNat + l64.toNat = a2.toNat * r0.toNat := q62
 refine lM ?_
 refine lO (pr_ext (vs := [(b64 h63), (b64 l64)]) rfl rfl rfl) ?_
 refine lO (pr_ext (vs := [(b64 h63), (b64 l64)]) rfl rfl rfl) ?_
 refine lS ?_
 refine lS ?_
 refine lN ?_
 refine lS ?_
 refine lN ?_
 refine lM ?_
 refine lM ?_
 obtain ⟨s65, d66, ha_67, hb_68, hv_69⟩ := add64_at l64 (0#64) (0#64) (by decide)
 refine lO (pr_extern hv_69 rfl rfl rfl) ?_
 refine lM ?_
 refine lO (pr_ext (vs := [(b64 s65), (b64 d66)]) rfl rfl rfl) ?_
 refine lO (pr_ext (vs := [(b64 s65), (b64 d66)]) rfl rfl rfl) ?_
 refine lS ?_
 refine lS ?_
 refine lN ?_
 refine lM ?_
 refine lM ?_
 refine lO (pr_add (add64 _ _) rfl rfl rfl) ?_
 refine lS ?_
 refine lN ?_
 refine lM ?_
 refine lM ?_
 refine lO (pr_add (na_i64 (a := 2) (b := 0) sd) rfl rfl rfl) ?_
 refine lM ?_
 refine lM ?_
 refine lO (pr_add (na_i64 (a := 2) (b := 0) sd) rfl rfl rfl) ?_
 refine lO (pr_ixa (j := 2) (m' := 2) sd oM Tryz.underlying126 (z := 1) kr rfl rfl rfl) ?_
 refine lQ (ld_blk 0 rfl rfl Tryz.underlying23 rfl rfl rfl) ?_
 refine lM ?_
 obtain ⟨s70, d71, ha_72, hb_73, hv_74⟩ := add64_at s56 s65 (0#64) (by decide)
 refine lO (pr_extern hv_74 rfl rfl rfl) ?_
 refine lM ?_
 refine lO (pr_ext (vs := [(b64 s70), (b64 d71)]) rfl rfl rfl) ?_
 refine lO (pr_ext (vs := [(b64 s70), (b64 d71)]) rfl rfl rfl) ?_
 refine lO (pr_ixa (j := 2) (m' := 2) sd oM Tryz.underlying126 (z := 1) kr rfl rfl rfl) ?_
 refine L_op rfl (op_store (vs := [(b64 s70)]) (cs' := [(b64 s14), (b64 s42), (b64 s70), (b64 (0#64 + ((h49 + d52) + d57))), (b64 (0#64))]) 0 rfl rfl kr (one_one rfl) (by simp) rfl rfl rfl rfl rfl ?_)
 refine lS ?_
 refine L_nil ?_
 refine lR ?_
 refine lM ?_
 refine lM ?_
 refine lO (pr_add (add64 _ _) rfl rfl rfl) ?_
 refine lS ?_
 refine L_nil ?_
 refine lR ?_
 refine lO (pr_add (na_i64 (a := 0) (b := 1) sd) rfl rfl rfl) ?_
 refine lM ?_
 refine L_nil ?_
 refine T_round ?_
 refine lT ?_
 refine lO (pr_cmp (bo := .lss) (nc_lt (a := 1) (b := 2)) rfl rfl rfl rfl) ?_
 refine L_nil ?_
 refine T_seq ?_
 refine T_cond_t rfl ?_
 refine T_skip ?_
 refine T_seq ?_
 refine T_block ?_
 refine lT ?_
 refine lM ?_
 refine lO (pr_ix (cs := [(b64 r0), (b64 r1)]) (j := 1) sd rfl Tryz.underlying106 Tryz.underlying23 rfl kr rfl rfl rfl) ?_
 refine lS ?_
 refine lS ?_
 refine lN ?_
 refine lM ?_
 refine lM ?_
 refine L_op rfl (op_cn (fun w hw => mul64_f a2 r1 w (hok_nil w) ) (enters_of Tryz.func95 kr rfl) rfl rfl rfl rfl rfl (fun t75 q76 => ?_))
 obtain ⟨h77, l78⟩ := t75
 have q76 : 18446744073709551616 * h77.toNat + l78.toNat = a2.toNat * r1.toNat := q76
 refine lM ?_
 refine lO (pr_ext (vs := [(b64 h77), (b64 l78)]) rfl rfl rfl) ?_
 refine lO (pr_ext (vs := [(b64 h77), (b64 l78)]) rfl rfl rfl) ?_
 refine lS ?_
 refine lS ?_
 refine lN ?_
 refine lS ?_
 refine lN ?_
 refine lM ?_
 refine lM ?_
 obtain ⟨s79, d80, ha_81, hb_82, hv_83⟩ := add64_at l78 ((h63 + d66) + d71) (0#64) (by decide)
 refine lO (pr_extern hv_83 rfl rfl rfl) ?_
 refine lM ?_
 refine lO (pr_ext (vs := [(b64 s79), (b64 d80)]) rfl rfl rfl) ?_
 refine lO (pr_ext (vs := [(b64 s79), (b64 d80)]) rfl rfl rfl) ?_
 refine lS ?_
 refine lS ?_
 refine lN ?_
 refine lM ?_
 refine lM ?_
 refine lO (pr_add (add64 _ _) rfl rfl rfl) ?_
 refine lS ?_
 refine lN ?_
 refine lM ?_
 refine lM ?_
 refine lO (pr_add (na_i64 (a := 2) (b := 1) sd) rfl rfl rfl) ?_
 refine lM ?_
 refine lM ?_
 refine lO (pr_add (na_i64 (a := 2) (b := 1) sd) rfl rfl rfl) ?_
 refine lO (pr_ixa (j := 3) (m' := 3) sd oM Tryz.underlying126 (z := 1) kr rfl rfl rfl) ?_
 refine lQ (ld_blk 0 rfl rfl Tryz.underlying23 rfl rfl rfl) ?_
 refine lM ?_
 obtain ⟨s84, d85, ha_86, hb_87, hv_88⟩ := add64_at (0#64 + ((h49 + d52) + d57)) s79 (0#64) (by decide)
 refine lO (pr_extern hv_88 rfl rfl rfl) ?_
 refine lM ?_
 refine lO (pr_ext (vs := [(b64 s84), (b64 d85)]) rfl rfl rfl) ?_
 refine lO (pr_ext (vs := [(b64 s84), (b64 d85)]) rfl rfl rfl) ?_
 refine lO (pr_ixa (j := 3) (m' := 3) sd oM Tryz.underlying126 (z := 1) kr rfl rfl rfl) ?_
 refine L_op rfl (op_store (vs := [(b64 s84)]) (cs' := [(b64 s14), (b64 s42), (b64 s70), (b64 s84), (b64 (0#64))]) 0 rfl rfl kr (one_one rfl) (by simp) rfl rfl rfl rfl rfl ?_)
 refine lS ?_
 refine L_nil ?_
 refine lR ?_
 refine lM ?_
 refine lM ?_
 refine lO (pr_add (add64 _ _) rfl rfl rfl) ?_
 refine lS ?_
 refine L_nil ?_
 refine lR ?_
 refine lO (pr_add (na_i64 (a := 1) (b := 1) sd) rfl rfl rfl) ?_
 refine lM ?_
 refine L_nil ?_
 refine T_round ?_
 refine lT ?_
 refine lO (pr_cmp (bo := .lss) (nc_lt (a := 2) (b := 2)) rfl rfl rfl rfl) ?_
 refine L_nil ?_
 refine lE [(3, (.pointer (some ⟨g2, 0, none⟩))), (4, (.pointer (some ⟨g3, 0, none⟩))), (5, (.pointer (some ⟨g4, 0, none⟩))), (6, (.int .i64 ((2 : Nat) : Int))), (7, (b64 a2)), (8, (b64 ((h77 + d80) + d85))), (17, (.agg [(b64 a0), (b64 a1), (b64 a2)].toArray)), (18, (.int .i64 ((2 : Nat) : Int))), (22, (.agg [(b64 r0), (b64 r1)].toArray)), (23, (.int .i64 ((2 : Nat) : Int))), (24, (.bool (decide (2 < 2))))] ?_
 refine lH [0, 1, 2, 3] [.blk g4 126 [(b64 s14), (b64 s42), (b64 s70), (b64 s84), (b64 (0#64))], .blk g3 108 [(b64 (0#64)), (b64 (0#64)), (b64 (0#64))], .blk g2 106 [(b64 r0), (b64 r1)], .blk g1 108 [(b64 a0), (b64 a1), (b64 a2)]] ?_
 refine T_seq ?_
 refine T_cond_f rfl ?_
 refine T_exit rfl ?_
 refine lT ?_
 refine lM ?_
 refine lO (pr_add (na_i64 (a := 2) (b := 2) sd) rfl rfl rfl) ?_
 refine lO (pr_ixa (j := 4) (m' := 4) sd oM Tryz.underlying126 (z := 1) kr rfl rfl rfl) ?_
 refine lQ (ld_blk 0 rfl rfl Tryz.underlying23 rfl rfl rfl) ?_
 refine lM ?_
 refine lO (pr_add (add64 (0#64) _) rfl rfl rfl) ?_
 refine lO (pr_ixa (j := 4) (m' := 4) sd oM Tryz.underlying126 (z := 1) kr rfl rfl rfl) ?_
 refine L_op rfl (op_store (vs := [(b64 (0#64 + ((h77 + d80) + d85)))]) (cs' := [(b64 s14), (b64 s42), (b64 s70), (b64 s84), (b64 (0#64 + ((h77 + d80) + d85)))]) 0 rfl rfl kr (one_one rfl) (by simp) rfl rfl rfl rfl rfl ?_)
 refine lN ?_
 refine lM ?_
 refine lO (pr_cmp (bo := .eql) (nc_eq (a := 2) (b := 2)) rfl rfl rfl rfl) ?_
 refine L_nil ?_
 refine T_cond_t rfl ?_
 refine T_exit rfl ?_
 refine lT ?_
 refine lO (pr_ixa (j := 0) (m' := 0) sd oM Tryz.underlying126 (z := 1) kr rfl rfl rfl) ?_
 refine lQ (ld_blk 0 rfl rfl Tryz.underlying23 rfl rfl rfl) ?_
 refine lO (pr_ixa (j := 1) (m' := 1) sd oM Tryz.underlying126 (z := 1) kr rfl rfl rfl) ?_
 refine lQ (ld_blk 0 rfl rfl Tryz.underlying23 rfl rfl rfl) ?_
 refine lO (pr_ixa (j := 2) (m' := 2) sd oM Tryz.underlying126 (z := 1) kr rfl rfl rfl) ?_
 refine lQ (ld_blk 0 rfl rfl Tryz.underlying23 rfl rfl rfl) ?_
 refine lO (pr_and (ib_and64 _ (3#64)) rfl rfl rfl) ?_
 refine lO (pr_build (qs := [(0, (b64 s14)), (1, (b64 s42)), (2, (b64 (s70 &&& 3#64)))]) (v := .agg [(b64 s14), (b64 s42), (b64 (s70 &&& 3#64))].toArray) (fun _ => by kernel_rfl) rfl rfl) ?_
 refine L_op rfl (op_alloc (z := .agg [(b64 (0#64)), (b64 (0#64)), (b64 (0#64))].toArray) (zs := [(b64 (0#64)), (b64 (0#64)), (b64 (0#64))]) kr rfl rfl rfl rfl (fun g89 => ?_))
 refine L_op rfl (op_sto (n := 3) (vs := [(b64 s14), (b64 s42), (b64 (s70 &&& 3#64))]) 0 rfl rfl kr (by simp [Value.oneCell']) kr kr rfl rfl rfl rfl ?_)
 refine lN ?_
 refine lO (pr_ixa (j := 2) (m' := 2) sd oM Tryz.underlying126 (z := 1) kr rfl rfl rfl) ?_
 refine lQ (ld_blk 1 rfl rfl Tryz.underlying23 rfl rfl rfl) ?_
 refine lO (pr_andNot (ib_andNot64 _ (3#64)) rfl rfl rfl) ?_
 refine lO (pr_ixa (j := 3) (m' := 3) sd oM Tryz.underlying126 (z := 1) kr rfl rfl rfl) ?_
 refine lQ (ld_blk 1 rfl rfl Tryz.underlying23 rfl rfl rfl) ?_
 refine lO (pr_ixa (j := 4) (m' := 4) sd oM Tryz.underlying126 (z := 1) kr rfl rfl rfl) ?_
 refine lQ (ld_blk 1 rfl rfl Tryz.underlying23 rfl rfl rfl) ?_
 refine lO (pr_build (qs := [(0, (b64 (s70 &&& ~~~3#64))), (1, (b64 s84)), (2, (b64 (0#64 + ((h77 + d80) + d85))))]) (v := .agg [(b64 (s70 &&& ~~~3#64)), (b64 s84), (b64 (0#64 + ((h77 + d80) + d85)))].toArray) (fun _ => by kernel_rfl) rfl rfl) ?_
 refine L_op rfl (op_alloc (z := .agg [(b64 (0#64)), (b64 (0#64)), (b64 (0#64))].toArray) (zs := [(b64 (0#64)), (b64 (0#64)), (b64 (0#64))]) kr rfl rfl rfl rfl (fun g90 => ?_))
 refine L_op rfl (op_sto (n := 3) (vs := [(b64 (s70 &&& ~~~3#64)), (b64 s84), (b64 (0#64 + ((h77 + d80) + d85)))]) 0 rfl rfl kr (by simp [Value.oneCell']) kr kr rfl rfl rfl rfl ?_)
 refine lN ?_
 refine lO (pr_ixa (j := 0) (m' := 0) sd oM Tryz.underlying108 (z := 1) kr rfl rfl rfl) ?_
 refine lQ (ld_blk 0 rfl rfl Tryz.underlying23 rfl rfl rfl) ?_
 refine lO (pr_shift (sh_shr64 (s70 &&& ~~~3#64) _ 2) rfl rfl rfl rfl) ?_
 refine lO (pr_ixa (j := 1) (m' := 1) sd oM Tryz.underlying108 (z := 1) kr rfl rfl rfl) ?_
 refine lQ (ld_blk 0 rfl rfl Tryz.underlying23 rfl rfl rfl) ?_
 refine lO (pr_shift (sh_shl64 s84 _ 62) rfl rfl rfl rfl) ?_
 refine lO (pr_or (ib_or64 _ _) rfl rfl rfl) ?_
 refine lO (pr_ixa (j := 1) (m' := 1) sd oM Tryz.underlying108 (z := 1) kr rfl rfl rfl) ?_
 refine lQ (ld_blk 0 rfl rfl Tryz.underlying23 rfl rfl rfl) ?_
 refine lO (pr_shift (sh_shr64 s84 _ 2) rfl rfl rfl rfl) ?_
 refine lO (pr_ixa (j := 2) (m' := 2) sd oM Tryz.underlying108 (z := 1) kr rfl rfl rfl) ?_
 refine lQ (ld_blk 0 rfl rfl Tryz.underlying23 rfl rfl rfl) ?_
 refine lO (pr_shift (sh_shl64 (0#64 + ((h77 + d80) + d85)) _ 62) rfl rfl rfl rfl) ?_
 refine lO (pr_or (ib_or64 _ _) rfl rfl rfl) ?_
 refine lO (pr_ixa (j := 2) (m' := 2) sd oM Tryz.underlying108 (z := 1) kr rfl rfl rfl) ?_
 refine lQ (ld_blk 0 rfl rfl Tryz.underlying23 rfl rfl rfl) ?_
 refine lO (pr_shift (sh_shr64 (0#64 + ((h77 + d80) + d85)) _ 2) rfl rfl rfl rfl) ?_
 refine lO (pr_build (qs := [(0, (b64 (((s70 &&& ~~~3#64) >>> 2) ||| (s84 <<< 62)))), (1, (b64 ((s84 >>> 2) ||| ((0#64 + ((h77 + d80) + d85)) <<< 62)))), (2, (b64 ((0#64 + ((h77 + d80) + d85)) >>> 2)))]) (v := .agg [(b64 (((s70 &&& ~~~3#64) >>> 2) ||| (s84 <<< 62))), (b64 ((s84 >>> 2) ||| ((0#64 + ((h77 + d80) + d85)) <<< 62))), (b64 ((0#64 + ((h77 + d80) + d85)) >>> 2))].toArray) (fun _ => by kernel_rfl) rfl rfl) ?_
 refine L_op rfl (op_alloc (z := .agg [(b64 (0#64)), (b64 (0#64)), (b64 (0#64))].toArray) (zs := [(b64 (0#64)), (b64 (0#64)), (b64 (0#64))]) kr rfl rfl rfl rfl (fun g91 => ?_))
 refine L_op rfl (op_sto (n := 3) (vs := [(b64 (((s70 &&& ~~~3#64) >>> 2) ||| (s84 <<< 62))), (b64 ((s84 >>> 2) ||| ((0#64 + ((h77 + d80) + d85)) <<< 62))), (b64 ((0#64 + ((h77 + d80) + d85)) >>> 2))]) 0 rfl rfl kr (by simp [Value.oneCell']) kr kr rfl rfl rfl rfl ?_)
 refine L_nil ?_
 refine T_seq ?_
 refine T_regD [.blk g91 108 [(b64 (((s70 &&& ~~~3#64) >>> 2) ||| (s84 <<< 62))), (b64 ((s84 >>> 2) ||| ((0#64 + ((h77 + d80) + d85)) <<< 62))), (b64 ((0#64 + ((h77 + d80) + d85)) >>> 2))], .blk g90 108 [(b64 (s70 &&& ~~~3#64)), (b64 s84), (b64 (0#64 + ((h77 + d80) + d85)))], .blk g89 108 [(b64 s14), (b64 s42), (b64 (s70 &&& 3#64))], .blk g4 126 [(b64 s14), (b64 s42), (b64 s70), (b64 s84), (b64 (0#64 + ((h77 + d80) + d85)))], .blk g3 108 [(b64 (0#64)), (b64 (0#64)), (b64 (0#64))], .blk g2 106 [(b64 r0), (b64 r1)], .blk g1 108 [(b64 a0), (b64 a1), (b64 a2)]] 15 16 #[false, false, false, false, false, false, false, false, false, false, false, false, false, false, false, false] hF kr kr ?_
 refine D_pure (i := 1) [0, 1, 2, 3, 4, 5, 6] rfl kr rfl (pr_ixa (j := 0) (m' := 0) sd oM Tryz.underlying108 (z := 1) kr rfl rfl rfl) (.inr rfl) rfl rfl ?_
 refine D_pure (i := 3) [0, 1, 2, 3, 4, 5, 6] rfl kr rfl (pr_ixa (j := 1) (m' := 1) sd oM Tryz.underlying108 (z := 1) kr rfl rfl rfl) (.inr rfl) rfl rfl ?_
 refine D_pure (i := 5) [0, 1, 2, 3, 4, 5, 6] rfl kr rfl (pr_ixa (j := 2) (m' := 2) sd oM Tryz.underlying108 (z := 1) kr rfl rfl rfl) (.inr rfl) rfl rfl ?_
 refine D_pure (i := 8) [0, 1, 2, 3, 4, 5, 6] rfl kr rfl (pr_ixa (j := 0) (m' := 0) sd oM Tryz.underlying108 (z := 1) kr rfl rfl rfl) (.inr rfl) rfl rfl ?_
 refine D_pure (i := 10) [0, 1, 2, 3, 4, 5, 6] rfl kr rfl (pr_ixa (j := 1) (m' := 1) sd oM Tryz.underlying108 (z := 1) kr rfl rfl rfl) (.inr rfl) rfl rfl ?_
 refine D_pure (i := 12) [0, 1, 2, 3, 4, 5, 6] rfl kr rfl (pr_ixa (j := 2) (m' := 2) sd oM Tryz.underlying108 (z := 1) kr rfl rfl rfl) (.inr rfl) rfl rfl ?_
 refine D_take (i := 0) [0, 1, 2, 3, 4, 5, 6] rfl kr rfl (ld_agg (ds := [(b64 s14), (b64 s42), (b64 (s70 &&& 3#64))]) 2 rfl agg_all Tryz.underlying108 rfl kr rfl rfl) rfl rfl rfl ?_
 refine D_take (i := 2) [0, 1, 2, 3, 4, 5, 6] rfl kr rfl (ld_blk 1 rfl rfl Tryz.underlying23 rfl rfl rfl) rfl rfl rfl ?_
 refine D_take (i := 4) [0, 1, 2, 3, 4, 5, 6] rfl kr rfl (ld_blk 1 rfl rfl Tryz.underlying23 rfl rfl rfl) rfl rfl rfl ?_
 refine D_take (i := 6) [0, 1, 2, 3, 4, 5, 6] rfl kr rfl (ld_blk 1 rfl rfl Tryz.underlying23 rfl rfl rfl) rfl rfl rfl ?_
 refine D_take (i := 9) [0, 1, 2, 3, 4, 5, 6] rfl kr rfl (ld_blk 0 rfl rfl Tryz.underlying23 rfl rfl rfl) rfl rfl rfl ?_
 refine D_take (i := 11) [0, 1, 2, 3, 4, 5, 6] rfl kr rfl (ld_blk 0 rfl rfl Tryz.underlying23 rfl rfl rfl) rfl rfl rfl ?_
 refine D_take (i := 13) [0, 1, 2, 3, 4, 5, 6] rfl kr rfl (ld_blk 0 rfl rfl Tryz.underlying23 rfl rfl rfl) rfl rfl rfl ?_
 refine D_one 7 _ rfl kr rfl (op_cn (fun w hw => plus_f s14 s42 (s70 &&& 3#64) (s70 &&& ~~~3#64) s84 (0#64 + ((h77 + d80) + d85)) w (hok_nil w) (side_a s70 (top_zero (times_bits (mac_bits q6 ha_11 ha_16) (mac_bits q20 ha_25 ha_30) (mac_bits q34 ha_39 ha_44) (mac_bits q48 ha_53 ha_58) (mac_bits q62 ha_67 ha_72) (mac_bits q76 ha_81 ha_86)) (Nat.mul_lt_mul'' ha hr)))) (enters_of Tryz.func79 kr rfl) rfl rfl rfl rfl rfl (fun t92 q93 => ?_))
 obtain ⟨b0_94, b1_95, b2_96⟩ := t92
 have q93 : v3 b0_94 b1_95 b2_96 = v3 s14 s42 (s70 &&& 3#64) + v3 (s70 &&& ~~~3#64) s84 (0#64 + ((h77 + d80) + d85)) := q93
 refine D_on [0, 1, 2, 3, 4, 5, 6] rfl ?_
 refine D_one 14 _ rfl kr rfl (op_cn (fun w hw => plus_f b0_94 b1_95 b2_96 (((s70 &&& ~~~3#64) >>> 2) ||| (s84 <<< 62)) ((s84 >>> 2) ||| ((0#64 + ((h77 + d80) + d85)) <<< 62)) ((0#64 + ((h77 + d80) + d85)) >>> 2) w (hok_nil w) (side_b q93 (top_zero (times_bits (mac_bits q6 ha_11 ha_16) (mac_bits q20 ha_25 ha_30) (mac_bits q34 ha_39 ha_44) (mac_bits q48 ha_53 ha_58) (mac_bits q62 ha_67 ha_72) (mac_bits q76 ha_81 ha_86)) (Nat.mul_lt_mul'' ha hr)))) (enters_of Tryz.func79 kr rfl) rfl rfl rfl rfl rfl (fun t97 q98 => ?_))
 obtain ⟨b0_99, b1_100, b2_101⟩ := t97
 have q98 : v3 b0_99 b1_100 b2_101 = v3 b0_94 b1_95 b2_96 + v3 (((s70 &&& ~~~3#64) >>> 2) ||| (s84 <<< 62)) ((s84 >>> 2) ||| ((0#64 + ((h77 + d80) + d85)) <<< 62)) ((0#64 + ((h77 + d80) + d85)) >>> 2) := q98
 refine D_on [0, 1, 2, 3, 4, 5, 6] rfl ?_
 refine D_one 15 _ rfl kr rfl (op_sto (n := 3) (vs := [(b64 b0_99), (b64 b1_100), (b64 b2_101)]) 4 rfl rfl kr (by simp [Value.oneCell']) kr kr rfl rfl rfl rfl ?_)
 refine D_past kr ?_
 refine D_done kr ?_
 refine T_ret ?_
 exact T_fin (b0_99, b1_100, b2_101) (times_fin (times_bits (mac_bits q6 ha_11 ha_16) (mac_bits q20 ha_25 ha_30) (mac_bits q34 ha_39 ha_44) (mac_bits q48 ha_53 ha_58) (mac_bits q62 ha_67 ha_72) (mac_bits q76 ha_81 ha_86)) (Nat.mul_lt_mul'' ha hr) q93 q98) (resb 0 rfl rfl rfl Tryz.underlying108 rfl kr) [] ⟨by decide, rfl⟩ rfl
end Go.Proofs.YtlplpmkdebemnaaGreat
