/- What the reference of layer 6 answers, by facts. Conditions: lengths far below the greatest. -/
import Derived.Test.YtemjinkdfjoicaaGCat
import Derived.Test.YtemjinkdfjoicaaPolyT
import Derived.Test.YtemjinkdfjoicaaProg
import Derived.Test.YtemjinkdfjoicaaFwU
namespace Go.Proofs.Ytemjinkdfjoicaa
set_option linter.unusedVariables false
set_option linter.unusedSimpArgs false
set_option linter.unnecessarySimpa false
open Go.RowKit Bv Fw

/-- The clamped key's first i bytes. -/
def rcl (key : List (BitVec 8)) (i : Nat) : List (BitVec 8) := prez (clampb key) 16 i
theorem rcl_len (key : List (BitVec 8)) (i : Nat) (h : i ≤ 16) : (rcl key i).length = 16 := prez_len _ _ _ (clampb_len key) h
theorem rcl_zero (key : List (BitVec 8)) : List.replicate 16 0#8 = rcl key 0 := prez_zero _ _
theorem rcl_all (key : List (BitVec 8)) : rcl key 16 = clampb key := prez_all _ _ (clampb_len key)
theorem rcl_set (key : List (BitVec 8)) (i : Nat) (h : i < 16) (v : BitVec 8) (hv : v = ath (clampb key) i) : (rcl key i).set i v = rcl key (i + 1) := prez_set _ _ _ (clampb_len key) h v hv
theorem rcl_a (key : List (BitVec 8)) (i : Nat) (h : i < 16) (h1 : ¬ i % 4 = 3) (h2 : ¬ (i = 4 ∨ i = 8 ∨ i = 12)) : (rcl key i).set i (ath key i) = rcl key (i + 1) :=
  rcl_set key i h _ (by rw [clampb_at _ _ h, if_neg h1, if_neg h2])
theorem rcl_at (key : List (BitVec 8)) (i : Nat) (h : i < 16) (v : BitVec 8) : ath ((rcl key i).set i v) i = v := by
  rw [ath_set _ _ _ _ (by rw [rcl_len key i (by omega)]; exact h), if_pos rfl]
theorem rcl_b (key : List (BitVec 8)) (i : Nat) (h : i < 16) (h1 : i % 4 = 3) : ((rcl key i).set i (ath key i)).set i (ath ((rcl key i).set i (ath key i)) i &&& 15#8) = rcl key (i + 1) := by
  rw [rcl_at key i h, List.set_set]
  exact rcl_set key i h _ (by rw [clampb_at _ _ h, if_pos h1])
theorem rcl_c (key : List (BitVec 8)) (i : Nat) (h : i < 16) (h1 : ¬ i % 4 = 3) (h2 : i = 4 ∨ i = 8 ∨ i = 12) : ((rcl key i).set i (ath key i)).set i (ath ((rcl key i).set i (ath key i)) i &&& 252#8) = rcl key (i + 1) := by
  rw [rcl_at key i h, List.set_set]
  exact rcl_set key i h _ (by rw [clampb_at _ _ h, if_neg h1, if_pos h2])
attribute [irreducible] rcl

set_option maxHeartbeats 4000000 in
theorem rclamp_f (key : List (BitVec 8)) (w : World) (hO : HOK [] w) (hkl : key.length = 32) : Calls Try.prog 21 [(.agg (key.map b8).toArray)].toArray w (Ret (T := Unit) [] w (fun _ => True) (fun _ => (.agg ((clampb key).map b8).toArray)) (fun _ => [])) := by
 have hcl := clampb_len key
 have hF : Wid Fence.wide := wid_wide
 refine enter (c := _) Try.func21 rfl [] [(.agg (key.map b8).toArray)] [] (by rw [Try.ntmps21]; rfl) (own_rds hO rfl) ?_
 rw [Try.ntmps21]
 refine T_re [(0, (.agg (key.map b8).toArray))] (sc rfl sn) ?_
 refine T_he [] [] ⟨by decide, rfl⟩ ?_
 refine Tsr hF rfl ?_
 refine L_op rfl (op_box (zs := (key.map b8)) rfl rfl rfl rfl rfl (fun g1 => ?_))
 refine L_op rfl (op_alloc (z := .agg ((List.replicate 16 0#8).map b8).toArray) (zs := ((List.replicate 16 0#8).map b8)) kr rfl rfl rfl rfl (fun g2 => ?_))
 refine L_nil ?_
 refine Tsr hF rfl ?_
 refine L_op rfl (op_alloc (z := .agg ((List.replicate 16 0#8).map b8).toArray) (zs := ((List.replicate 16 0#8).map b8)) kr rfl rfl rfl rfl (fun g3 => ?_))
 refine L_nil ?_
 refine T_seq ?_
 refine Tsr hF rfl ?_
 refine la rfl rfl rfl rfl rfl ?_
 refine L_nil ?_
 refine T_block ?_
 refine T_as 0 _ (.blk g3 27 ((rcl key 0).map b8)) rfl (by rw [← rcl_zero]) ?_
 refine T_loop (T := Nat) (fun i => i ≤ 16) (fun i => [(1, (.pointer (some ⟨g1, 0, none⟩))), (2, (.pointer (some ⟨g2, 0, none⟩))), (3, (.pointer (some ⟨g3, 0, none⟩))), (4, (.int .i64 ((i : Nat) : Int)))]) (fun i => [.blk g3 27 ((rcl key i).map b8), .blk g2 27 ((List.replicate 16 0#8).map b8), .blk g1 22 (key.map b8)]) (fun i => 16 - i) 0 (by first | trivial | ((try dsimp only); first | omega | (refine ⟨?_, ?_⟩ <;> omega) | (refine ⟨?_, ?_, ?_⟩ <;> omega) | (simp; done) | (simp; omega))) (sc rfl (sc rfl (sc rfl (sc rfl sn)))) [0, 1, 2] ⟨by decide, rfl⟩ ?_
 rintro i hp
 have hp : i ≤ 16 := hp
 have hrl := rcl_len key i hp
 refine T_re [(1, (.pointer (some ⟨g1, 0, none⟩))), (2, (.pointer (some ⟨g2, 0, none⟩))), (3, (.pointer (some ⟨g3, 0, none⟩))), (4, (.int .i64 ((i : Nat) : Int)))] (sc rfl (sc rfl (sc rfl (sc rfl sn)))) ?_
 refine T_he [0, 1, 2] [.blk g3 27 ((rcl key i).map b8), .blk g2 27 ((List.replicate 16 0#8).map b8), .blk g1 22 (key.map b8)] ⟨by decide, rfl⟩ ?_
 refine T_seq ?_
 refine Tsr hF rfl ?_
 refine lm rfl rfl rfl rfl rfl ?_
 refine lo rfl (pr_cmp (bo := .lss) (nc_lt (a := i) (b := 16)) rfl rfl rfl rfl) rfl rfl ?_
 refine L_nil ?_
 refine T_cond (decide (i < 16)) rfl (fun hc_4 => ?_) (fun hc_4 => ?_)
 ·
  have hc_4 := of_decide_eq_true hc_4
  refine T_skip ?_
  refine T_seq ?_
  refine T_block ?_
  refine Tsr hF rfl ?_
  refine lm rfl rfl rfl rfl rfl ?_
  refine lm rfl rfl rfl rfl rfl ?_
  refine lo rfl (pr_ixa (j := i) (m' := i) sd (by omega) Try.underlying22 (z := 1) kr rfl rfl rfl) rfl rfl ?_
  refine lq rfl (ld_blk 2 rfl (get8 sd) Try.underlying5 rfl rfl rfl) rfl rfl ?_
  refine lo rfl (pr_ixa (j := i) (m' := i) sd (by omega) Try.underlying27 (z := 1) kr rfl rfl rfl) rfl rfl ?_
  refine L_op rfl (op_store (vs := [(b8 (ath key i))]) (cs' := ((List.set (rcl key i) i (ath key i)).map b8)) 0 rfl rfl kr (one_one rfl) (stl sd) (splice_map (f := b8) sd) rfl rfl rfl rfl ?_)
  refine L_nil ?_
  refine T_seq ?_
  refine Tsr hF rfl ?_
  refine lm rfl rfl rfl rfl rfl ?_
  refine lo rfl (pr_rem (a := i) (b := 4) sd rfl rfl rfl) rfl rfl ?_
  refine lo rfl (pr_cmp (bo := .eql) (nc_eq (a := i % 4) (b := 3)) rfl rfl rfl rfl) rfl rfl ?_
  refine L_nil ?_
  refine T_cond (i % 4 == 3) rfl (fun hc_5 => ?_) (fun hc_5 => ?_)
  ·
   have hc_5 : i % 4 = 3 := by simpa using hc_5
   refine T_reg hF rfl ?_
   refine lm rfl rfl rfl rfl rfl ?_
   refine lm rfl rfl rfl rfl rfl ?_
   refine lo rfl (pr_ixa (j := i) (m' := i) sd (by omega) Try.underlying27 (z := 1) kr rfl rfl rfl) rfl rfl ?_
   refine lq rfl (ld_blk 0 rfl (get8 sd) Try.underlying5 rfl rfl rfl) rfl rfl ?_
   refine lo rfl (pr_and (ib_and8 _ (15#8)) rfl rfl rfl) rfl rfl ?_
   refine lo rfl (pr_ixa (j := i) (m' := i) sd (by omega) Try.underlying27 (z := 1) kr rfl rfl rfl) rfl rfl ?_
   refine L_op rfl (op_store (vs := [(b8 ((ath (List.set (rcl key i) i (ath key i)) i) &&& 15#8))]) (cs' := ((List.set (List.set (rcl key i) i (ath key i)) i ((ath (List.set (rcl key i) i (ath key i)) i) &&& 15#8)).map b8)) 0 rfl rfl kr (one_one rfl) (stl sd) (splice_map (f := b8) sd) rfl rfl rfl rfl ?_)
   refine L_nil ?_
   refine Tsr hF rfl ?_
   refine lm rfl rfl rfl rfl rfl ?_
   refine lo rfl (pr_cmp (bo := .eql) (nc_eq (a := i) (b := 4)) rfl rfl rfl rfl) rfl rfl ?_
   refine lm rfl rfl rfl rfl rfl ?_
   rcases Bool.eq_false_or_eq_true (i == 4) with hc_6 | hc_6
   ·
    refine T_slot 25 (.bool (i == 4)) (.bool true) rfl (congrArg _ hc_6) ?_
    refine T_slot 24 (.bool (i == 4)) (.bool true) rfl (congrArg _ hc_6) ?_
    have hc_6 : i = 4 := by simpa using hc_6
    refine L_skip rfl rfl rfl ?_
    refine L_skip rfl rfl rfl ?_
    refine lo rfl (pr_pick_t rfl rfl rfl) rfl rfl ?_
    refine lm rfl rfl rfl rfl rfl ?_
    refine L_skip rfl rfl rfl ?_
    refine L_skip rfl rfl rfl ?_
    refine lo rfl (pr_pick_t rfl rfl rfl) rfl rfl ?_
    refine L_nil ?_
    refine T_cond_t rfl ?_
    refine T_reg hF rfl ?_
    refine lm rfl rfl rfl rfl rfl ?_
    refine lm rfl rfl rfl rfl rfl ?_
    refine lo rfl (pr_ixa (j := i) (m' := i) sd (by omega) Try.underlying27 (z := 1) kr rfl rfl rfl) rfl rfl ?_
    refine lq rfl (ld_blk 0 rfl (get8 sd) Try.underlying5 rfl rfl rfl) rfl rfl ?_
    refine lo rfl (pr_and (ib_and8 _ (252#8)) rfl rfl rfl) rfl rfl ?_
    refine lo rfl (pr_ixa (j := i) (m' := i) sd (by omega) Try.underlying27 (z := 1) kr rfl rfl rfl) rfl rfl ?_
    refine L_op rfl (op_store (vs := [(b8 ((ath (List.set (List.set (rcl key i) i (ath key i)) i ((ath (List.set (rcl key i) i (ath key i)) i) &&& 15#8)) i) &&& 252#8))]) (cs' := ((List.set (List.set (List.set (rcl key i) i (ath key i)) i ((ath (List.set (rcl key i) i (ath key i)) i) &&& 15#8)) i ((ath (List.set (List.set (rcl key i) i (ath key i)) i ((ath (List.set (rcl key i) i (ath key i)) i) &&& 15#8)) i) &&& 252#8)).map b8)) 0 rfl rfl kr (one_one rfl) (stl sd) (splice_map (f := b8) sd) rfl rfl rfl rfl ?_)
    refine L_nil ?_
    refine T_reg hF rfl ?_
    refine lm rfl rfl rfl rfl rfl ?_
    refine lo rfl (pr_add (na_i64 (a := i) (b := 1) sd) rfl rfl rfl) rfl rfl ?_
    refine la rfl rfl rfl rfl rfl ?_
    refine L_nil ?_
    refine T_as 0 _ (.blk g3 27 ((rcl key (i + 1)).map b8)) rfl (by first | (exfalso; omega) | rw [rcl_a key i (by omega) (by omega) (by omega)] | rw [rcl_b key i (by omega) (by omega)] | rw [rcl_c key i (by omega) (by omega) (by omega)]) ?_
    exact T_again (i + 1) (by first | trivial | ((try dsimp only); first | omega | (refine ⟨?_, ?_⟩ <;> omega) | (refine ⟨?_, ?_, ?_⟩ <;> omega) | (simp; done) | (simp; omega))) (by first | trivial | ((try dsimp only); first | omega | (refine ⟨?_, ?_⟩ <;> omega) | (refine ⟨?_, ?_, ?_⟩ <;> omega) | (simp; done) | (simp; omega))) (sc rfl (sc rfl (sc rfl (sc rfl sn)))) [0, 1, 2] ⟨by decide, rfl⟩
   ·
    refine T_slot 25 (.bool (i == 4)) (.bool false) rfl (congrArg _ hc_6) ?_
    refine T_slot 24 (.bool (i == 4)) (.bool false) rfl (congrArg _ hc_6) ?_
    have hc_6 : ¬ i = 4 := by simpa using hc_6
    refine lm rfl rfl rfl rfl rfl ?_
    refine lo rfl (pr_cmp (bo := .eql) (nc_eq (a := i) (b := 8)) rfl rfl rfl rfl) rfl rfl ?_
    refine lo rfl (pr_pick_f rfl rfl rfl) rfl rfl ?_
    refine lm rfl rfl rfl rfl rfl ?_
    rcases Bool.eq_false_or_eq_true (i == 8) with hc_7 | hc_7
    ·
     refine T_slot 29 (.bool (i == 8)) (.bool true) rfl (congrArg _ hc_7) ?_
     refine T_slot 27 (.bool (i == 8)) (.bool true) rfl (congrArg _ hc_7) ?_
     refine T_slot 28 (.bool (i == 8)) (.bool true) rfl (congrArg _ hc_7) ?_
     have hc_7 : i = 8 := by simpa using hc_7
     refine L_skip rfl rfl rfl ?_
     refine L_skip rfl rfl rfl ?_
     refine lo rfl (pr_pick_t rfl rfl rfl) rfl rfl ?_
     refine L_nil ?_
     refine T_cond_t rfl ?_
     refine T_reg hF rfl ?_
     refine lm rfl rfl rfl rfl rfl ?_
     refine lm rfl rfl rfl rfl rfl ?_
     refine lo rfl (pr_ixa (j := i) (m' := i) sd (by omega) Try.underlying27 (z := 1) kr rfl rfl rfl) rfl rfl ?_
     refine lq rfl (ld_blk 0 rfl (get8 sd) Try.underlying5 rfl rfl rfl) rfl rfl ?_
     refine lo rfl (pr_and (ib_and8 _ (252#8)) rfl rfl rfl) rfl rfl ?_
     refine lo rfl (pr_ixa (j := i) (m' := i) sd (by omega) Try.underlying27 (z := 1) kr rfl rfl rfl) rfl rfl ?_
     refine L_op rfl (op_store (vs := [(b8 ((ath (List.set (List.set (rcl key i) i (ath key i)) i ((ath (List.set (rcl key i) i (ath key i)) i) &&& 15#8)) i) &&& 252#8))]) (cs' := ((List.set (List.set (List.set (rcl key i) i (ath key i)) i ((ath (List.set (rcl key i) i (ath key i)) i) &&& 15#8)) i ((ath (List.set (List.set (rcl key i) i (ath key i)) i ((ath (List.set (rcl key i) i (ath key i)) i) &&& 15#8)) i) &&& 252#8)).map b8)) 0 rfl rfl kr (one_one rfl) (stl sd) (splice_map (f := b8) sd) rfl rfl rfl rfl ?_)
     refine L_nil ?_
     refine T_reg hF rfl ?_
     refine lm rfl rfl rfl rfl rfl ?_
     refine lo rfl (pr_add (na_i64 (a := i) (b := 1) sd) rfl rfl rfl) rfl rfl ?_
     refine la rfl rfl rfl rfl rfl ?_
     refine L_nil ?_
     refine T_as 0 _ (.blk g3 27 ((rcl key (i + 1)).map b8)) rfl (by first | (exfalso; omega) | rw [rcl_a key i (by omega) (by omega) (by omega)] | rw [rcl_b key i (by omega) (by omega)] | rw [rcl_c key i (by omega) (by omega) (by omega)]) ?_
     exact T_again (i + 1) (by first | trivial | ((try dsimp only); first | omega | (refine ⟨?_, ?_⟩ <;> omega) | (refine ⟨?_, ?_, ?_⟩ <;> omega) | (simp; done) | (simp; omega))) (by first | trivial | ((try dsimp only); first | omega | (refine ⟨?_, ?_⟩ <;> omega) | (refine ⟨?_, ?_, ?_⟩ <;> omega) | (simp; done) | (simp; omega))) (sc rfl (sc rfl (sc rfl (sc rfl sn)))) [0, 1, 2] ⟨by decide, rfl⟩
    ·
     refine T_slot 29 (.bool (i == 8)) (.bool false) rfl (congrArg _ hc_7) ?_
     refine T_slot 27 (.bool (i == 8)) (.bool false) rfl (congrArg _ hc_7) ?_
     refine T_slot 28 (.bool (i == 8)) (.bool false) rfl (congrArg _ hc_7) ?_
     have hc_7 : ¬ i = 8 := by simpa using hc_7
     refine lm rfl rfl rfl rfl rfl ?_
     refine lo rfl (pr_cmp (bo := .eql) (nc_eq (a := i) (b := 12)) rfl rfl rfl rfl) rfl rfl ?_
     refine lo rfl (pr_pick_f rfl rfl rfl) rfl rfl ?_
     refine L_nil ?_
     refine T_cond (i == 12) rfl (fun hc_8 => ?_) (fun hc_8 => ?_)
     ·
      have hc_8 : i = 12 := by simpa using hc_8
      refine T_reg hF rfl ?_
      refine lm rfl rfl rfl rfl rfl ?_
      refine lm rfl rfl rfl rfl rfl ?_
      refine lo rfl (pr_ixa (j := i) (m' := i) sd (by omega) Try.underlying27 (z := 1) kr rfl rfl rfl) rfl rfl ?_
      refine lq rfl (ld_blk 0 rfl (get8 sd) Try.underlying5 rfl rfl rfl) rfl rfl ?_
      refine lo rfl (pr_and (ib_and8 _ (252#8)) rfl rfl rfl) rfl rfl ?_
      refine lo rfl (pr_ixa (j := i) (m' := i) sd (by omega) Try.underlying27 (z := 1) kr rfl rfl rfl) rfl rfl ?_
      refine L_op rfl (op_store (vs := [(b8 ((ath (List.set (List.set (rcl key i) i (ath key i)) i ((ath (List.set (rcl key i) i (ath key i)) i) &&& 15#8)) i) &&& 252#8))]) (cs' := ((List.set (List.set (List.set (rcl key i) i (ath key i)) i ((ath (List.set (rcl key i) i (ath key i)) i) &&& 15#8)) i ((ath (List.set (List.set (rcl key i) i (ath key i)) i ((ath (List.set (rcl key i) i (ath key i)) i) &&& 15#8)) i) &&& 252#8)).map b8)) 0 rfl rfl kr (one_one rfl) (stl sd) (splice_map (f := b8) sd) rfl rfl rfl rfl ?_)
      refine L_nil ?_
      refine T_reg hF rfl ?_
      refine lm rfl rfl rfl rfl rfl ?_
      refine lo rfl (pr_add (na_i64 (a := i) (b := 1) sd) rfl rfl rfl) rfl rfl ?_
      refine la rfl rfl rfl rfl rfl ?_
      refine L_nil ?_
      refine T_as 0 _ (.blk g3 27 ((rcl key (i + 1)).map b8)) rfl (by first | (exfalso; omega) | rw [rcl_a key i (by omega) (by omega) (by omega)] | rw [rcl_b key i (by omega) (by omega)] | rw [rcl_c key i (by omega) (by omega) (by omega)]) ?_
      exact T_again (i + 1) (by first | trivial | ((try dsimp only); first | omega | (refine ⟨?_, ?_⟩ <;> omega) | (refine ⟨?_, ?_, ?_⟩ <;> omega) | (simp; done) | (simp; omega))) (by first | trivial | ((try dsimp only); first | omega | (refine ⟨?_, ?_⟩ <;> omega) | (refine ⟨?_, ?_, ?_⟩ <;> omega) | (simp; done) | (simp; omega))) (sc rfl (sc rfl (sc rfl (sc rfl sn)))) [0, 1, 2] ⟨by decide, rfl⟩
     ·
      have hc_8 : ¬ i = 12 := by simpa using hc_8
      refine T_skip ?_
      refine T_reg hF rfl ?_
      refine lm rfl rfl rfl rfl rfl ?_
      refine lo rfl (pr_add (na_i64 (a := i) (b := 1) sd) rfl rfl rfl) rfl rfl ?_
      refine la rfl rfl rfl rfl rfl ?_
      refine L_nil ?_
      refine T_as 0 _ (.blk g3 27 ((rcl key (i + 1)).map b8)) rfl (by first | (exfalso; omega) | rw [rcl_a key i (by omega) (by omega) (by omega)] | rw [rcl_b key i (by omega) (by omega)] | rw [rcl_c key i (by omega) (by omega) (by omega)]) ?_
      exact T_again (i + 1) (by first | trivial | ((try dsimp only); first | omega | (refine ⟨?_, ?_⟩ <;> omega) | (refine ⟨?_, ?_, ?_⟩ <;> omega) | (simp; done) | (simp; omega))) (by first | trivial | ((try dsimp only); first | omega | (refine ⟨?_, ?_⟩ <;> omega) | (refine ⟨?_, ?_, ?_⟩ <;> omega) | (simp; done) | (simp; omega))) (sc rfl (sc rfl (sc rfl (sc rfl sn)))) [0, 1, 2] ⟨by decide, rfl⟩
  ·
   have hc_5 : ¬ i % 4 = 3 := by simpa using hc_5
   refine T_skip ?_
   refine Tsr hF rfl ?_
   refine lm rfl rfl rfl rfl rfl ?_
   refine lo rfl (pr_cmp (bo := .eql) (nc_eq (a := i) (b := 4)) rfl rfl rfl rfl) rfl rfl ?_
   refine lm rfl rfl rfl rfl rfl ?_
   rcases Bool.eq_false_or_eq_true (i == 4) with hc_9 | hc_9
   ·
    refine T_slot 25 (.bool (i == 4)) (.bool true) rfl (congrArg _ hc_9) ?_
    refine T_slot 24 (.bool (i == 4)) (.bool true) rfl (congrArg _ hc_9) ?_
    have hc_9 : i = 4 := by simpa using hc_9
    refine L_skip rfl rfl rfl ?_
    refine L_skip rfl rfl rfl ?_
    refine lo rfl (pr_pick_t rfl rfl rfl) rfl rfl ?_
    refine lm rfl rfl rfl rfl rfl ?_
    refine L_skip rfl rfl rfl ?_
    refine L_skip rfl rfl rfl ?_
    refine lo rfl (pr_pick_t rfl rfl rfl) rfl rfl ?_
    refine L_nil ?_
    refine T_cond_t rfl ?_
    refine T_reg hF rfl ?_
    refine lm rfl rfl rfl rfl rfl ?_
    refine lm rfl rfl rfl rfl rfl ?_
    refine lo rfl (pr_ixa (j := i) (m' := i) sd (by omega) Try.underlying27 (z := 1) kr rfl rfl rfl) rfl rfl ?_
    refine lq rfl (ld_blk 0 rfl (get8 sd) Try.underlying5 rfl rfl rfl) rfl rfl ?_
    refine lo rfl (pr_and (ib_and8 _ (252#8)) rfl rfl rfl) rfl rfl ?_
    refine lo rfl (pr_ixa (j := i) (m' := i) sd (by omega) Try.underlying27 (z := 1) kr rfl rfl rfl) rfl rfl ?_
    refine L_op rfl (op_store (vs := [(b8 ((ath (List.set (rcl key i) i (ath key i)) i) &&& 252#8))]) (cs' := ((List.set (List.set (rcl key i) i (ath key i)) i ((ath (List.set (rcl key i) i (ath key i)) i) &&& 252#8)).map b8)) 0 rfl rfl kr (one_one rfl) (stl sd) (splice_map (f := b8) sd) rfl rfl rfl rfl ?_)
    refine L_nil ?_
    refine T_reg hF rfl ?_
    refine lm rfl rfl rfl rfl rfl ?_
    refine lo rfl (pr_add (na_i64 (a := i) (b := 1) sd) rfl rfl rfl) rfl rfl ?_
    refine la rfl rfl rfl rfl rfl ?_
    refine L_nil ?_
    refine T_as 0 _ (.blk g3 27 ((rcl key (i + 1)).map b8)) rfl (by first | (exfalso; omega) | rw [rcl_a key i (by omega) (by omega) (by omega)] | rw [rcl_b key i (by omega) (by omega)] | rw [rcl_c key i (by omega) (by omega) (by omega)]) ?_
    exact T_again (i + 1) (by first | trivial | ((try dsimp only); first | omega | (refine ⟨?_, ?_⟩ <;> omega) | (refine ⟨?_, ?_, ?_⟩ <;> omega) | (simp; done) | (simp; omega))) (by first | trivial | ((try dsimp only); first | omega | (refine ⟨?_, ?_⟩ <;> omega) | (refine ⟨?_, ?_, ?_⟩ <;> omega) | (simp; done) | (simp; omega))) (sc rfl (sc rfl (sc rfl (sc rfl sn)))) [0, 1, 2] ⟨by decide, rfl⟩
   ·
    refine T_slot 25 (.bool (i == 4)) (.bool false) rfl (congrArg _ hc_9) ?_
    refine T_slot 24 (.bool (i == 4)) (.bool false) rfl (congrArg _ hc_9) ?_
    have hc_9 : ¬ i = 4 := by simpa using hc_9
    refine lm rfl rfl rfl rfl rfl ?_
    refine lo rfl (pr_cmp (bo := .eql) (nc_eq (a := i) (b := 8)) rfl rfl rfl rfl) rfl rfl ?_
    refine lo rfl (pr_pick_f rfl rfl rfl) rfl rfl ?_
    refine lm rfl rfl rfl rfl rfl ?_
    rcases Bool.eq_false_or_eq_true (i == 8) with hc_10 | hc_10
    ·
     refine T_slot 29 (.bool (i == 8)) (.bool true) rfl (congrArg _ hc_10) ?_
     refine T_slot 27 (.bool (i == 8)) (.bool true) rfl (congrArg _ hc_10) ?_
     refine T_slot 28 (.bool (i == 8)) (.bool true) rfl (congrArg _ hc_10) ?_
     have hc_10 : i = 8 := by simpa using hc_10
     refine L_skip rfl rfl rfl ?_
     refine L_skip rfl rfl rfl ?_
     refine lo rfl (pr_pick_t rfl rfl rfl) rfl rfl ?_
     refine L_nil ?_
     refine T_cond_t rfl ?_
     refine T_reg hF rfl ?_
     refine lm rfl rfl rfl rfl rfl ?_
     refine lm rfl rfl rfl rfl rfl ?_
     refine lo rfl (pr_ixa (j := i) (m' := i) sd (by omega) Try.underlying27 (z := 1) kr rfl rfl rfl) rfl rfl ?_
     refine lq rfl (ld_blk 0 rfl (get8 sd) Try.underlying5 rfl rfl rfl) rfl rfl ?_
     refine lo rfl (pr_and (ib_and8 _ (252#8)) rfl rfl rfl) rfl rfl ?_
     refine lo rfl (pr_ixa (j := i) (m' := i) sd (by omega) Try.underlying27 (z := 1) kr rfl rfl rfl) rfl rfl ?_
     refine L_op rfl (op_store (vs := [(b8 ((ath (List.set (rcl key i) i (ath key i)) i) &&& 252#8))]) (cs' := ((List.set (List.set (rcl key i) i (ath key i)) i ((ath (List.set (rcl key i) i (ath key i)) i) &&& 252#8)).map b8)) 0 rfl rfl kr (one_one rfl) (stl sd) (splice_map (f := b8) sd) rfl rfl rfl rfl ?_)
     refine L_nil ?_
     refine T_reg hF rfl ?_
     refine lm rfl rfl rfl rfl rfl ?_
     refine lo rfl (pr_add (na_i64 (a := i) (b := 1) sd) rfl rfl rfl) rfl rfl ?_
     refine la rfl rfl rfl rfl rfl ?_
     refine L_nil ?_
     refine T_as 0 _ (.blk g3 27 ((rcl key (i + 1)).map b8)) rfl (by first | (exfalso; omega) | rw [rcl_a key i (by omega) (by omega) (by omega)] | rw [rcl_b key i (by omega) (by omega)] | rw [rcl_c key i (by omega) (by omega) (by omega)]) ?_
     exact T_again (i + 1) (by first | trivial | ((try dsimp only); first | omega | (refine ⟨?_, ?_⟩ <;> omega) | (refine ⟨?_, ?_, ?_⟩ <;> omega) | (simp; done) | (simp; omega))) (by first | trivial | ((try dsimp only); first | omega | (refine ⟨?_, ?_⟩ <;> omega) | (refine ⟨?_, ?_, ?_⟩ <;> omega) | (simp; done) | (simp; omega))) (sc rfl (sc rfl (sc rfl (sc rfl sn)))) [0, 1, 2] ⟨by decide, rfl⟩
    ·
     refine T_slot 29 (.bool (i == 8)) (.bool false) rfl (congrArg _ hc_10) ?_
     refine T_slot 27 (.bool (i == 8)) (.bool false) rfl (congrArg _ hc_10) ?_
     refine T_slot 28 (.bool (i == 8)) (.bool false) rfl (congrArg _ hc_10) ?_
     have hc_10 : ¬ i = 8 := by simpa using hc_10
     refine lm rfl rfl rfl rfl rfl ?_
     refine lo rfl (pr_cmp (bo := .eql) (nc_eq (a := i) (b := 12)) rfl rfl rfl rfl) rfl rfl ?_
     refine lo rfl (pr_pick_f rfl rfl rfl) rfl rfl ?_
     refine L_nil ?_
     refine T_cond (i == 12) rfl (fun hc_11 => ?_) (fun hc_11 => ?_)
     ·
      have hc_11 : i = 12 := by simpa using hc_11
      refine T_reg hF rfl ?_
      refine lm rfl rfl rfl rfl rfl ?_
      refine lm rfl rfl rfl rfl rfl ?_
      refine lo rfl (pr_ixa (j := i) (m' := i) sd (by omega) Try.underlying27 (z := 1) kr rfl rfl rfl) rfl rfl ?_
      refine lq rfl (ld_blk 0 rfl (get8 sd) Try.underlying5 rfl rfl rfl) rfl rfl ?_
      refine lo rfl (pr_and (ib_and8 _ (252#8)) rfl rfl rfl) rfl rfl ?_
      refine lo rfl (pr_ixa (j := i) (m' := i) sd (by omega) Try.underlying27 (z := 1) kr rfl rfl rfl) rfl rfl ?_
      refine L_op rfl (op_store (vs := [(b8 ((ath (List.set (rcl key i) i (ath key i)) i) &&& 252#8))]) (cs' := ((List.set (List.set (rcl key i) i (ath key i)) i ((ath (List.set (rcl key i) i (ath key i)) i) &&& 252#8)).map b8)) 0 rfl rfl kr (one_one rfl) (stl sd) (splice_map (f := b8) sd) rfl rfl rfl rfl ?_)
      refine L_nil ?_
      refine T_reg hF rfl ?_
      refine lm rfl rfl rfl rfl rfl ?_
      refine lo rfl (pr_add (na_i64 (a := i) (b := 1) sd) rfl rfl rfl) rfl rfl ?_
      refine la rfl rfl rfl rfl rfl ?_
      refine L_nil ?_
      refine T_as 0 _ (.blk g3 27 ((rcl key (i + 1)).map b8)) rfl (by first | (exfalso; omega) | rw [rcl_a key i (by omega) (by omega) (by omega)] | rw [rcl_b key i (by omega) (by omega)] | rw [rcl_c key i (by omega) (by omega) (by omega)]) ?_
      exact T_again (i + 1) (by first | trivial | ((try dsimp only); first | omega | (refine ⟨?_, ?_⟩ <;> omega) | (refine ⟨?_, ?_, ?_⟩ <;> omega) | (simp; done) | (simp; omega))) (by first | trivial | ((try dsimp only); first | omega | (refine ⟨?_, ?_⟩ <;> omega) | (refine ⟨?_, ?_, ?_⟩ <;> omega) | (simp; done) | (simp; omega))) (sc rfl (sc rfl (sc rfl (sc rfl sn)))) [0, 1, 2] ⟨by decide, rfl⟩
     ·
      have hc_11 : ¬ i = 12 := by simpa using hc_11
      refine T_skip ?_
      refine T_reg hF rfl ?_
      refine lm rfl rfl rfl rfl rfl ?_
      refine lo rfl (pr_add (na_i64 (a := i) (b := 1) sd) rfl rfl rfl) rfl rfl ?_
      refine la rfl rfl rfl rfl rfl ?_
      refine L_nil ?_
      refine T_as 0 _ (.blk g3 27 ((rcl key (i + 1)).map b8)) rfl (by first | (exfalso; omega) | rw [rcl_a key i (by omega) (by omega) (by omega)] | rw [rcl_b key i (by omega) (by omega)] | rw [rcl_c key i (by omega) (by omega) (by omega)]) ?_
      exact T_again (i + 1) (by first | trivial | ((try dsimp only); first | omega | (refine ⟨?_, ?_⟩ <;> omega) | (refine ⟨?_, ?_, ?_⟩ <;> omega) | (simp; done) | (simp; omega))) (by first | trivial | ((try dsimp only); first | omega | (refine ⟨?_, ?_⟩ <;> omega) | (refine ⟨?_, ?_, ?_⟩ <;> omega) | (simp; done) | (simp; omega))) (sc rfl (sc rfl (sc rfl (sc rfl sn)))) [0, 1, 2] ⟨by decide, rfl⟩
 ·
  have hc_4 := of_decide_eq_false hc_4
  refine T_exit rfl ?_
  obtain rfl : 16 = i := by omega
  refine Tsr hF rfl ?_
  refine lq rfl (ld_agg (ds := ((rcl key 16).map b8)) 0 rfl agg_all Try.underlying27 rfl (fwz (n := 16) kr sd) rfl rfl) rfl rfl ?_
  refine L_op rfl (op_sto (n := 16) (vs := ((rcl key 16).map b8)) 1 rfl rfl kr (all8_one _) kr sd rfl rfl rfl rfl ?_)
  refine L_nil ?_
  refine T_ret ?_
  refine T_as 0 _ (.blk g2 27 ((clampb key).map b8)) rfl (by rw [rcl_all]) ?_
  exact T_fin () (by first | trivial | omega | (simp; done)) (resb 0 rfl rfl rfl Try.underlying27 rfl (fwz (n := 16) kr sd)) [] ⟨by decide, rfl⟩ rfl
set_option maxHeartbeats 4000000 in
theorem rcarry_f (xs : List (BitVec 32)) (B : Nat) (w : World) (hO : HOK [] w) (hx : xs.length = 40) (hB : Bd B xs) (hB2 : B ≤ 1073741824) : Calls Try.prog 39 [(.agg (xs.map b32).toArray)].toArray w (Ret (T := Unit) [] w (fun _ => True) (fun _ => (.agg ((dig 32 40 (vw xs)).map b32).toArray)) (fun _ => [])) := by
 have hdl := dig_len 32 40 (vw xs)
 have hF : Wid Fence.wide := wid_wide
 refine enter (c := _) Try.func39 rfl [] [(.agg (xs.map b32).toArray)] [] (by rw [Try.ntmps39]; rfl) (own_rds hO rfl) ?_
 rw [Try.ntmps39]
 refine T_re [(0, (.agg (xs.map b32).toArray))] (sc rfl sn) ?_
 refine T_he [] [] ⟨by decide, rfl⟩ ?_
 refine Tsr hF rfl ?_
 refine L_op rfl (op_box (zs := (xs.map b32)) rfl rfl rfl rfl rfl (fun g1 => ?_))
 refine L_op rfl (op_alloc (z := .agg ((List.replicate 40 0#32).map b32).toArray) (zs := ((List.replicate 40 0#32).map b32)) kr rfl rfl rfl rfl (fun g2 => ?_))
 refine L_nil ?_
 refine Tsr hF rfl ?_
 refine la rfl rfl rfl rfl rfl ?_
 refine L_nil ?_
 refine T_seq ?_
 refine Tsr hF rfl ?_
 refine la rfl rfl rfl rfl rfl ?_
 refine L_nil ?_
 refine T_block ?_
 refine T_slot 3 (b32 (0#32)) (b32 (BitVec.ofNat 32 (cy xs 0))) rfl (by rw [cy_zero]) ?_
 refine T_as 1 _ (.blk g1 65 ((cw xs 0).map b32)) rfl (by rw [cw_zero]) ?_
 refine T_loop (T := Nat) (fun i => i ≤ 40) (fun i => [(1, (.pointer (some ⟨g1, 0, none⟩))), (2, (.pointer (some ⟨g2, 0, none⟩))), (3, (b32 (BitVec.ofNat 32 (cy xs i)))), (4, (.int .i64 ((i : Nat) : Int)))]) (fun i => [.blk g2 65 ((List.replicate 40 0#32).map b32), .blk g1 65 ((cw xs i).map b32)]) (fun i => 40 - i) 0 (by first | trivial | ((try dsimp only); first | omega | (refine ⟨?_, ?_⟩ <;> omega) | (refine ⟨?_, ?_, ?_⟩ <;> omega) | (simp; done) | (simp; omega))) (sc rfl (sc rfl (sc rfl (sc rfl sn)))) [1, 0] ⟨by decide, rfl⟩ ?_
 rintro i hp
 have hp : i ≤ 40 := hp
 have hcwl : (cw xs i).length = 40 := by rw [cw_len xs i (by omega), hx]
 refine T_re [(1, (.pointer (some ⟨g1, 0, none⟩))), (2, (.pointer (some ⟨g2, 0, none⟩))), (3, (b32 (BitVec.ofNat 32 (cy xs i)))), (4, (.int .i64 ((i : Nat) : Int)))] (sc rfl (sc rfl (sc rfl (sc rfl sn)))) ?_
 refine T_he [0, 1] [.blk g2 65 ((List.replicate 40 0#32).map b32), .blk g1 65 ((cw xs i).map b32)] ⟨by decide, rfl⟩ ?_
 refine T_seq ?_
 refine Tsr hF rfl ?_
 refine lm rfl rfl rfl rfl rfl ?_
 refine lo rfl (pr_cmp (bo := .lss) (nc_lt (a := i) (b := 40)) rfl rfl rfl rfl) rfl rfl ?_
 refine L_nil ?_
 refine T_cond (decide (i < 40)) rfl (fun hc_3 => ?_) (fun hc_3 => ?_)
 ·
  have hc_3 := of_decide_eq_true hc_3
  refine T_skip ?_
  refine T_seq ?_
  refine T_block ?_
  refine Tsr hF rfl ?_
  refine lm rfl rfl rfl rfl rfl ?_
  refine lm rfl rfl rfl rfl rfl ?_
  refine lo rfl (pr_ixa (j := i) (m' := i) sd (by omega) Try.underlying65 (z := 1) kr rfl rfl rfl) rfl rfl ?_
  refine lq rfl (ld_blk 1 rfl (get32 sd) Try.underlying63 rfl rfl rfl) rfl rfl ?_
  refine lo rfl (pr_add (add32 _ _) rfl rfl rfl) rfl rfl ?_
  refine la rfl rfl rfl rfl rfl ?_
  refine L_nil ?_
  refine Tsr hF rfl ?_
  refine lm rfl rfl rfl rfl rfl ?_
  refine lm rfl rfl rfl rfl rfl ?_
  refine lo rfl (pr_and (ib_and32 _ (255#32)) rfl rfl rfl) rfl rfl ?_
  refine lo rfl (pr_ixa (j := i) (m' := i) sd (by omega) Try.underlying65 (z := 1) kr rfl rfl rfl) rfl rfl ?_
  refine L_op rfl (op_store (vs := [(b32 ((BitVec.ofNat 32 (cy xs i) + (ath (cw xs i) i)) &&& 255#32))]) (cs' := ((List.set (cw xs i) i ((BitVec.ofNat 32 (cy xs i) + (ath (cw xs i) i)) &&& 255#32)).map b32)) 1 rfl rfl kr (one_one rfl) (stl sd) (splice_map (f := b32) sd) rfl rfl rfl rfl ?_)
  refine L_nil ?_
  refine T_reg hF rfl ?_
  refine lm rfl rfl rfl rfl rfl ?_
  refine lo rfl (pr_shift (sh_shr32 (BitVec.ofNat 32 (cy xs i) + (ath (cw xs i) i)) _ 8) rfl rfl rfl rfl) rfl rfl ?_
  refine la rfl rfl rfl rfl rfl ?_
  refine L_nil ?_
  refine T_reg hF rfl ?_
  refine lm rfl rfl rfl rfl rfl ?_
  refine lo rfl (pr_add (na_i64 (a := i) (b := 1) sd) rfl rfl rfl) rfl rfl ?_
  refine la rfl rfl rfl rfl rfl ?_
  refine L_nil ?_
  refine T_slot 3 (b32 ((BitVec.ofNat 32 (cy xs i) + (ath (cw xs i) i)) >>> 8)) (b32 (BitVec.ofNat 32 (cy xs (i + 1)))) rfl (by rw [cy_step xs B hB hB2 i (by omega)]) ?_
  refine T_as 0 _ (.blk g1 65 ((cw xs (i + 1)).map b32)) rfl (by rw [cw_step xs B hB hB2 i (by omega)]) ?_
  exact T_again (i + 1) (by first | trivial | ((try dsimp only); first | omega | (refine ⟨?_, ?_⟩ <;> omega) | (refine ⟨?_, ?_, ?_⟩ <;> omega) | (simp; done) | (simp; omega))) (by first | trivial | ((try dsimp only); first | omega | (refine ⟨?_, ?_⟩ <;> omega) | (refine ⟨?_, ?_, ?_⟩ <;> omega) | (simp; done) | (simp; omega))) (sc rfl (sc rfl (sc rfl (sc rfl sn)))) [1, 0] ⟨by decide, rfl⟩
 ·
  have hc_3 := of_decide_eq_false hc_3
  refine T_exit rfl ?_
  obtain rfl : 40 = i := by omega
  refine Tsr hF rfl ?_
  refine lq rfl (ld_agg (ds := ((cw xs 40).map b32)) 1 rfl agg_all Try.underlying65 rfl (fwz (n := 40) kr sd) rfl rfl) rfl rfl ?_
  refine L_op rfl (op_sto (n := 40) (vs := ((cw xs 40).map b32)) 0 rfl rfl kr (all32_one _) kr sd rfl rfl rfl rfl ?_)
  refine L_nil ?_
  refine T_ret ?_
  refine T_as 0 _ (.blk g2 65 ((dig 32 40 (vw xs)).map b32)) rfl (by rw [cw_all xs 40 hx]) ?_
  exact T_fin () (by first | trivial | omega | (simp; done)) (resb 0 rfl rfl rfl Try.underlying65 rfl (fwz (n := 40) kr sd)) [] ⟨by decide, rfl⟩ rfl
theorem redlow_s16 (v i : Nat) (h : i = 16) : (redlow v i).set i (ath (dig 32 40 v) i &&& 3#32) = redlow v (i + 1) := by subst h; exact redlow_set16 v

set_option maxHeartbeats 4000000 in
theorem rreduce_f (v : Nat) (w : World) (hO : HOK [] w) (hv : v < 2 ^ 256) : Calls Try.prog 40 [(.agg ((dig 32 40 v).map b32).toArray)].toArray w (Ret (T := Unit) [] w (fun _ => True) (fun _ => (.agg ((dig 32 40 (redk v 4)).map b32).toArray)) (fun _ => [])) := by
 have hdl := fun v => dig_len 32 40 v
 have hF : Wid Fence.wide := wid_wide
 refine enter (c := _) Try.func40 rfl [] [(.agg ((dig 32 40 v).map b32).toArray)] [] (by rw [Try.ntmps40]; rfl) (own_rds hO rfl) ?_
 rw [Try.ntmps40]
 refine T_re [(0, (.agg ((dig 32 40 v).map b32).toArray))] (sc rfl sn) ?_
 refine T_he [] [] ⟨by decide, rfl⟩ ?_
 refine Tsr hF rfl ?_
 refine L_op rfl (op_box (zs := ((dig 32 40 v).map b32)) rfl rfl rfl rfl rfl (fun g1 => ?_))
 refine L_op rfl (op_alloc (z := .agg ((List.replicate 40 0#32).map b32).toArray) (zs := ((List.replicate 40 0#32).map b32)) kr rfl rfl rfl rfl (fun g2 => ?_))
 refine L_nil ?_
 refine T_seq ?_
 refine Tsr hF rfl ?_
 refine la rfl rfl rfl rfl rfl ?_
 refine L_nil ?_
 refine T_block ?_
 refine T_as 1 _ (.blk g1 65 ((dig 32 40 (redk v 0)).map b32)) rfl (by rw [redk_zero]) ?_
 refine T_loop (T := Nat) (fun k => k ≤ 4) (fun k => [(1, (.pointer (some ⟨g1, 0, none⟩))), (2, (.pointer (some ⟨g2, 0, none⟩))), (3, (.int .i64 ((k : Nat) : Int)))]) (fun k => [.blk g2 65 ((List.replicate 40 0#32).map b32), .blk g1 65 ((dig 32 40 (redk v k)).map b32)]) (fun k => 4 - k) 0 (by first | trivial | ((try dsimp only); first | omega | (refine ⟨?_, ?_⟩ <;> omega) | (refine ⟨?_, ?_, ?_⟩ <;> omega) | (simp; done) | (simp; omega))) (sc rfl (sc rfl (sc rfl sn))) [1, 0] ⟨by decide, rfl⟩ ?_
 rintro k hp
 have hp : k ≤ 4 := hp
 have hd0 := hdl (redk v k)
 refine T_re [(1, (.pointer (some ⟨g1, 0, none⟩))), (2, (.pointer (some ⟨g2, 0, none⟩))), (3, (.int .i64 ((k : Nat) : Int)))] (sc rfl (sc rfl (sc rfl sn))) ?_
 refine T_he [0, 1] [.blk g2 65 ((List.replicate 40 0#32).map b32), .blk g1 65 ((dig 32 40 (redk v k)).map b32)] ⟨by decide, rfl⟩ ?_
 refine T_seq ?_
 refine Tsr hF rfl ?_
 refine lm rfl rfl rfl rfl rfl ?_
 refine lo rfl (pr_cmp (bo := .lss) (nc_lt (a := k) (b := 4)) rfl rfl rfl rfl) rfl rfl ?_
 refine L_nil ?_
 refine T_cond (decide (k < 4)) rfl (fun hc_3 => ?_) (fun hc_3 => ?_)
 ·
  have hc_3 := of_decide_eq_true hc_3
  refine T_skip ?_
  refine T_seq ?_
  refine T_block ?_
  refine Tsr hF rfl ?_
  refine L_op rfl (op_alloc (z := .agg ((List.replicate 40 0#32).map b32).toArray) (zs := ((List.replicate 40 0#32).map b32)) kr rfl rfl rfl rfl (fun g4 => ?_))
  refine L_op rfl (op_alloc (z := .agg ((List.replicate 40 0#32).map b32).toArray) (zs := ((List.replicate 40 0#32).map b32)) kr rfl rfl rfl rfl (fun g5 => ?_))
  refine L_nil ?_
  refine T_seq ?_
  refine Tsr hF rfl ?_
  refine la rfl rfl rfl rfl rfl ?_
  refine L_nil ?_
  refine T_block ?_
  refine T_as 0 _ (.blk g5 65 ((redlow (redk v k) 0).map b32)) rfl (by rw [← redlow_zero]) ?_
  refine T_as 1 _ (.blk g4 65 ((redhigh (redk v k) 0).map b32)) rfl (by rw [← redhigh_zero]) ?_
  refine T_loop (T := Nat) (fun i => i ≤ 40) (fun i => [(1, (.pointer (some ⟨g1, 0, none⟩))), (2, (.pointer (some ⟨g2, 0, none⟩))), (3, (.int .i64 ((k : Nat) : Int))), (4, (.pointer (some ⟨g4, 0, none⟩))), (5, (.pointer (some ⟨g5, 0, none⟩))), (6, (.int .i64 ((i : Nat) : Int)))]) (fun i => [.blk g5 65 ((redlow (redk v k) i).map b32), .blk g4 65 ((redhigh (redk v k) i).map b32), .blk g2 65 ((List.replicate 40 0#32).map b32), .blk g1 65 ((dig 32 40 (redk v k)).map b32)]) (fun i => 40 - i) 0 (by first | trivial | ((try dsimp only); first | omega | (refine ⟨?_, ?_⟩ <;> omega) | (refine ⟨?_, ?_, ?_⟩ <;> omega) | (simp; done) | (simp; omega))) (sc rfl (sc rfl (sc rfl (sc rfl (sc rfl (sc rfl sn)))))) [1, 0, 2, 3] ⟨by decide, rfl⟩ ?_
  rintro i hp
  have hp : i ≤ 40 := hp
  have hll := redlow_len (redk v k) i
  have hhl := redhigh_len (redk v k) i
  refine T_re [(1, (.pointer (some ⟨g1, 0, none⟩))), (2, (.pointer (some ⟨g2, 0, none⟩))), (3, (.int .i64 ((k : Nat) : Int))), (4, (.pointer (some ⟨g4, 0, none⟩))), (5, (.pointer (some ⟨g5, 0, none⟩))), (6, (.int .i64 ((i : Nat) : Int)))] (sc rfl (sc rfl (sc rfl (sc rfl (sc rfl (sc rfl sn)))))) ?_
  refine T_he [0, 1, 2, 3] [.blk g5 65 ((redlow (redk v k) i).map b32), .blk g4 65 ((redhigh (redk v k) i).map b32), .blk g2 65 ((List.replicate 40 0#32).map b32), .blk g1 65 ((dig 32 40 (redk v k)).map b32)] ⟨by decide, rfl⟩ ?_
  refine T_seq ?_
  refine Tsr hF rfl ?_
  refine lm rfl rfl rfl rfl rfl ?_
  refine lo rfl (pr_cmp (bo := .lss) (nc_lt (a := i) (b := 40)) rfl rfl rfl rfl) rfl rfl ?_
  refine L_nil ?_
  refine T_cond (decide (i < 40)) rfl (fun hc_6 => ?_) (fun hc_6 => ?_)
  ·
   have hc_6 := of_decide_eq_true hc_6
   refine T_skip ?_
   refine T_seq ?_
   refine T_block ?_
   refine T_seq ?_
   refine T_block ?_
   refine Tsr hF rfl ?_
   refine lm rfl rfl rfl rfl rfl ?_
   refine lo rfl (pr_cmp (bo := .lss) (nc_lt (a := i) (b := 16)) rfl rfl rfl rfl) rfl rfl ?_
   refine la rfl rfl rfl rfl rfl ?_
   refine L_nil ?_
   refine T_cond (decide (i < 16)) rfl (fun hc_7 => ?_) (fun hc_7 => ?_)
   ·
    have hc_7 := of_decide_eq_true hc_7
    refine T_reg hF rfl ?_
    refine lm rfl rfl rfl rfl rfl ?_
    refine lm rfl rfl rfl rfl rfl ?_
    refine lo rfl (pr_ixa (j := i) (m' := i) sd (by omega) Try.underlying65 (z := 1) kr rfl rfl rfl) rfl rfl ?_
    refine lq rfl (ld_blk 3 rfl (get32 sd) Try.underlying63 rfl rfl rfl) rfl rfl ?_
    refine lo rfl (pr_ixa (j := i) (m' := i) sd (by omega) Try.underlying65 (z := 1) kr rfl rfl rfl) rfl rfl ?_
    refine L_op rfl (op_store (vs := [(b32 (ath (dig 32 40 (redk v k)) i))]) (cs' := ((List.set (redlow (redk v k) i) i (ath (dig 32 40 (redk v k)) i)).map b32)) 0 rfl rfl kr (one_one rfl) (stl sd) (splice_map (f := b32) sd) rfl rfl rfl rfl ?_)
    refine L_nil ?_
    refine Tsr hF rfl ?_
    refine lm rfl rfl rfl rfl rfl ?_
    refine lo rfl (pr_cmp (bo := .geq) (nc_le (a := 16) (b := i)) rfl rfl rfl rfl) rfl rfl ?_
    refine L_nil ?_
    refine T_cond (decide (16 ≤ i)) rfl (fun hc_8 => ?_) (fun hc_8 => ?_)
    ·
     have hc_8 := of_decide_eq_true hc_8
     refine Tsr hF rfl ?_
     refine la rfl rfl rfl rfl rfl ?_
     refine L_nil ?_
     refine T_seq ?_
     refine Tsr hF rfl ?_
     refine lm rfl rfl rfl rfl rfl ?_
     refine lo rfl (pr_add (na_i64 (a := i) (b := 1) sd) rfl rfl rfl) rfl rfl ?_
     refine lo rfl (pr_cmp (bo := .lss) (nc_lt (a := i + 1) (b := 40)) rfl rfl rfl rfl) rfl rfl ?_
     refine L_nil ?_
     refine T_cond (decide (i + 1 < 40)) rfl (fun hc_9 => ?_) (fun hc_9 => ?_)
     ·
      have hc_9 := of_decide_eq_true hc_9
      refine T_reg hF rfl ?_
      refine lm rfl rfl rfl rfl rfl ?_
      refine lo rfl (pr_add (na_i64 (a := i) (b := 1) sd) rfl rfl rfl) rfl rfl ?_
      refine lo rfl (pr_ixa (j := i + 1) (m' := i + 1) sd (by omega) Try.underlying65 (z := 1) kr rfl rfl rfl) rfl rfl ?_
      refine lq rfl (ld_blk 3 rfl (get32 sd) Try.underlying63 rfl rfl rfl) rfl rfl ?_
      refine la rfl rfl rfl rfl rfl ?_
      refine L_nil ?_
      refine T_reg hF rfl ?_
      refine lm rfl rfl rfl rfl rfl ?_
      refine lo rfl (pr_sub (ns_i64 (a := i) (b := 16) sd sd) rfl rfl rfl) rfl rfl ?_
      refine lm rfl rfl rfl rfl rfl ?_
      refine lo rfl (pr_ixa (j := i) (m' := i) sd (by omega) Try.underlying65 (z := 1) kr rfl rfl rfl) rfl rfl ?_
      refine lq rfl (ld_blk 3 rfl (get32 sd) Try.underlying63 rfl rfl rfl) rfl rfl ?_
      refine lo rfl (pr_shift (sh_shr32 (ath (dig 32 40 (redk v k)) i) _ 2) rfl rfl rfl rfl) rfl rfl ?_
      refine lm rfl rfl rfl rfl rfl ?_
      refine lo rfl (pr_shift (sh_shl32 (ath (dig 32 40 (redk v k)) (i + 1)) _ 6) rfl rfl rfl rfl) rfl rfl ?_
      refine lo rfl (pr_and (ib_and32 _ (255#32)) rfl rfl rfl) rfl rfl ?_
      refine lo rfl (pr_or (ib_or32 _ _) rfl rfl rfl) rfl rfl ?_
      refine lo rfl (pr_ixa (j := i - 16) (m' := i - 16) sd (by omega) Try.underlying65 (z := 1) kr rfl rfl rfl) rfl rfl ?_
      refine L_op rfl (op_store (vs := [(b32 (((ath (dig 32 40 (redk v k)) i) >>> 2) ||| (((ath (dig 32 40 (redk v k)) (i + 1)) <<< 6) &&& 255#32)))]) (cs' := ((List.set (redhigh (redk v k) i) (i - 16) (((ath (dig 32 40 (redk v k)) i) >>> 2) ||| (((ath (dig 32 40 (redk v k)) (i + 1)) <<< 6) &&& 255#32))).map b32)) 1 rfl rfl kr (one_one rfl) (stl sd) (splice_map (f := b32) sd) rfl rfl rfl rfl ?_)
      refine L_nil ?_
      refine T_reg hF rfl ?_
      refine lm rfl rfl rfl rfl rfl ?_
      refine lo rfl (pr_add (na_i64 (a := i) (b := 1) sd) rfl rfl rfl) rfl rfl ?_
      refine la rfl rfl rfl rfl rfl ?_
      refine L_nil ?_
      refine T_as 1 _ (.blk g5 65 ((redlow (redk v k) (i + 1)).map b32)) rfl (by first | (exfalso; omega) | rw [redlow_set (redk v k) i (by omega)] | rw [redlow_stay (redk v k) i (by omega)] | rw [redlow_s16 (redk v k) i (by omega)]) ?_
      refine T_as 1 _ (.blk g4 65 ((redhigh (redk v k) (i + 1)).map b32)) rfl (by first | (exfalso; omega) | rw [redhigh_stay (redk v k) i (by omega)] | rw [redhigh_set (redk v k) i (by omega) (by omega) _ (redk_lt40 v k hv) (by rw [if_pos (by omega)])] | rw [redhigh_set (redk v k) i (by omega) (by omega) _ (redk_lt40 v k hv) (by rw [if_neg (by omega)])]) ?_
      exact T_again (i + 1) (by first | trivial | ((try dsimp only); first | omega | (refine ⟨?_, ?_⟩ <;> omega) | (refine ⟨?_, ?_, ?_⟩ <;> omega) | (simp; done) | (simp; omega))) (by first | trivial | ((try dsimp only); first | omega | (refine ⟨?_, ?_⟩ <;> omega) | (refine ⟨?_, ?_, ?_⟩ <;> omega) | (simp; done) | (simp; omega))) (sc rfl (sc rfl (sc rfl (sc rfl (sc rfl (sc rfl sn)))))) [1, 0, 2, 3] ⟨by decide, rfl⟩
     ·
      have hc_9 := of_decide_eq_false hc_9
      refine T_skip ?_
      refine T_reg hF rfl ?_
      refine lm rfl rfl rfl rfl rfl ?_
      refine lo rfl (pr_sub (ns_i64 (a := i) (b := 16) sd sd) rfl rfl rfl) rfl rfl ?_
      refine lm rfl rfl rfl rfl rfl ?_
      refine lo rfl (pr_ixa (j := i) (m' := i) sd (by omega) Try.underlying65 (z := 1) kr rfl rfl rfl) rfl rfl ?_
      refine lq rfl (ld_blk 3 rfl (get32 sd) Try.underlying63 rfl rfl rfl) rfl rfl ?_
      refine lo rfl (pr_shift (sh_shr32 (ath (dig 32 40 (redk v k)) i) _ 2) rfl rfl rfl rfl) rfl rfl ?_
      refine lm rfl rfl rfl rfl rfl ?_
      refine lo rfl (pr_shift (sh_shl32 (0#32) _ 6) rfl rfl rfl rfl) rfl rfl ?_
      refine lo rfl (pr_and (ib_and32 _ (255#32)) rfl rfl rfl) rfl rfl ?_
      refine lo rfl (pr_or (ib_or32 _ _) rfl rfl rfl) rfl rfl ?_
      refine lo rfl (pr_ixa (j := i - 16) (m' := i - 16) sd (by omega) Try.underlying65 (z := 1) kr rfl rfl rfl) rfl rfl ?_
      refine L_op rfl (op_store (vs := [(b32 (((ath (dig 32 40 (redk v k)) i) >>> 2) ||| ((0#32 <<< 6) &&& 255#32)))]) (cs' := ((List.set (redhigh (redk v k) i) (i - 16) (((ath (dig 32 40 (redk v k)) i) >>> 2) ||| ((0#32 <<< 6) &&& 255#32))).map b32)) 1 rfl rfl kr (one_one rfl) (stl sd) (splice_map (f := b32) sd) rfl rfl rfl rfl ?_)
      refine L_nil ?_
      refine T_reg hF rfl ?_
      refine lm rfl rfl rfl rfl rfl ?_
      refine lo rfl (pr_add (na_i64 (a := i) (b := 1) sd) rfl rfl rfl) rfl rfl ?_
      refine la rfl rfl rfl rfl rfl ?_
      refine L_nil ?_
      refine T_as 1 _ (.blk g5 65 ((redlow (redk v k) (i + 1)).map b32)) rfl (by first | (exfalso; omega) | rw [redlow_set (redk v k) i (by omega)] | rw [redlow_stay (redk v k) i (by omega)] | rw [redlow_s16 (redk v k) i (by omega)]) ?_
      refine T_as 1 _ (.blk g4 65 ((redhigh (redk v k) (i + 1)).map b32)) rfl (by first | (exfalso; omega) | rw [redhigh_stay (redk v k) i (by omega)] | rw [redhigh_set (redk v k) i (by omega) (by omega) _ (redk_lt40 v k hv) (by rw [if_pos (by omega)])] | rw [redhigh_set (redk v k) i (by omega) (by omega) _ (redk_lt40 v k hv) (by rw [if_neg (by omega)])]) ?_
      exact T_again (i + 1) (by first | trivial | ((try dsimp only); first | omega | (refine ⟨?_, ?_⟩ <;> omega) | (refine ⟨?_, ?_, ?_⟩ <;> omega) | (simp; done) | (simp; omega))) (by first | trivial | ((try dsimp only); first | omega | (refine ⟨?_, ?_⟩ <;> omega) | (refine ⟨?_, ?_, ?_⟩ <;> omega) | (simp; done) | (simp; omega))) (sc rfl (sc rfl (sc rfl (sc rfl (sc rfl (sc rfl sn)))))) [1, 0, 2, 3] ⟨by decide, rfl⟩
    ·
     have hc_8 := of_decide_eq_false hc_8
     refine T_skip ?_
     refine T_reg hF rfl ?_
     refine lm rfl rfl rfl rfl rfl ?_
     refine lo rfl (pr_add (na_i64 (a := i) (b := 1) sd) rfl rfl rfl) rfl rfl ?_
     refine la rfl rfl rfl rfl rfl ?_
     refine L_nil ?_
     refine T_as 0 _ (.blk g5 65 ((redlow (redk v k) (i + 1)).map b32)) rfl (by first | (exfalso; omega) | rw [redlow_set (redk v k) i (by omega)] | rw [redlow_stay (redk v k) i (by omega)] | rw [redlow_s16 (redk v k) i (by omega)]) ?_
     refine T_as 1 _ (.blk g4 65 ((redhigh (redk v k) (i + 1)).map b32)) rfl (by first | (exfalso; omega) | rw [redhigh_stay (redk v k) i (by omega)] | rw [redhigh_set (redk v k) i (by omega) (by omega) _ (redk_lt40 v k hv) (by rw [if_pos (by omega)])] | rw [redhigh_set (redk v k) i (by omega) (by omega) _ (redk_lt40 v k hv) (by rw [if_neg (by omega)])]) ?_
     exact T_again (i + 1) (by first | trivial | ((try dsimp only); first | omega | (refine ⟨?_, ?_⟩ <;> omega) | (refine ⟨?_, ?_, ?_⟩ <;> omega) | (simp; done) | (simp; omega))) (by first | trivial | ((try dsimp only); first | omega | (refine ⟨?_, ?_⟩ <;> omega) | (refine ⟨?_, ?_, ?_⟩ <;> omega) | (simp; done) | (simp; omega))) (sc rfl (sc rfl (sc rfl (sc rfl (sc rfl (sc rfl sn)))))) [1, 0, 2, 3] ⟨by decide, rfl⟩
   ·
    have hc_7 := of_decide_eq_false hc_7
    refine Tsr hF rfl ?_
    refine lm rfl rfl rfl rfl rfl ?_
    refine lo rfl (pr_cmp (bo := .eql) (nc_eq (a := i) (b := 16)) rfl rfl rfl rfl) rfl rfl ?_
    refine la rfl rfl rfl rfl rfl ?_
    refine L_nil ?_
    refine T_cond (i == 16) rfl (fun hc_10 => ?_) (fun hc_10 => ?_)
    ·
     have hc_10 : i = 16 := by simpa using hc_10
     refine T_reg hF rfl ?_
     refine lm rfl rfl rfl rfl rfl ?_
     refine lm rfl rfl rfl rfl rfl ?_
     refine lo rfl (pr_ixa (j := i) (m' := i) sd (by omega) Try.underlying65 (z := 1) kr rfl rfl rfl) rfl rfl ?_
     refine lq rfl (ld_blk 3 rfl (get32 sd) Try.underlying63 rfl rfl rfl) rfl rfl ?_
     refine lo rfl (pr_and (ib_and32 _ (3#32)) rfl rfl rfl) rfl rfl ?_
     refine lo rfl (pr_ixa (j := i) (m' := i) sd (by omega) Try.underlying65 (z := 1) kr rfl rfl rfl) rfl rfl ?_
     refine L_op rfl (op_store (vs := [(b32 ((ath (dig 32 40 (redk v k)) i) &&& 3#32))]) (cs' := ((List.set (redlow (redk v k) i) i ((ath (dig 32 40 (redk v k)) i) &&& 3#32)).map b32)) 0 rfl rfl kr (one_one rfl) (stl sd) (splice_map (f := b32) sd) rfl rfl rfl rfl ?_)
     refine L_nil ?_
     refine Tsr hF rfl ?_
     refine lm rfl rfl rfl rfl rfl ?_
     refine lo rfl (pr_cmp (bo := .geq) (nc_le (a := 16) (b := i)) rfl rfl rfl rfl) rfl rfl ?_
     refine L_nil ?_
     refine T_cond (decide (16 ≤ i)) rfl (fun hc_11 => ?_) (fun hc_11 => ?_)
     ·
      have hc_11 := of_decide_eq_true hc_11
      refine Tsr hF rfl ?_
      refine la rfl rfl rfl rfl rfl ?_
      refine L_nil ?_
      refine T_seq ?_
      refine Tsr hF rfl ?_
      refine lm rfl rfl rfl rfl rfl ?_
      refine lo rfl (pr_add (na_i64 (a := i) (b := 1) sd) rfl rfl rfl) rfl rfl ?_
      refine lo rfl (pr_cmp (bo := .lss) (nc_lt (a := i + 1) (b := 40)) rfl rfl rfl rfl) rfl rfl ?_
      refine L_nil ?_
      refine T_cond (decide (i + 1 < 40)) rfl (fun hc_12 => ?_) (fun hc_12 => ?_)
      ·
       have hc_12 := of_decide_eq_true hc_12
       refine T_reg hF rfl ?_
       refine lm rfl rfl rfl rfl rfl ?_
       refine lo rfl (pr_add (na_i64 (a := i) (b := 1) sd) rfl rfl rfl) rfl rfl ?_
       refine lo rfl (pr_ixa (j := i + 1) (m' := i + 1) sd (by omega) Try.underlying65 (z := 1) kr rfl rfl rfl) rfl rfl ?_
       refine lq rfl (ld_blk 3 rfl (get32 sd) Try.underlying63 rfl rfl rfl) rfl rfl ?_
       refine la rfl rfl rfl rfl rfl ?_
       refine L_nil ?_
       refine T_reg hF rfl ?_
       refine lm rfl rfl rfl rfl rfl ?_
       refine lo rfl (pr_sub (ns_i64 (a := i) (b := 16) sd sd) rfl rfl rfl) rfl rfl ?_
       refine lm rfl rfl rfl rfl rfl ?_
       refine lo rfl (pr_ixa (j := i) (m' := i) sd (by omega) Try.underlying65 (z := 1) kr rfl rfl rfl) rfl rfl ?_
       refine lq rfl (ld_blk 3 rfl (get32 sd) Try.underlying63 rfl rfl rfl) rfl rfl ?_
       refine lo rfl (pr_shift (sh_shr32 (ath (dig 32 40 (redk v k)) i) _ 2) rfl rfl rfl rfl) rfl rfl ?_
       refine lm rfl rfl rfl rfl rfl ?_
       refine lo rfl (pr_shift (sh_shl32 (ath (dig 32 40 (redk v k)) (i + 1)) _ 6) rfl rfl rfl rfl) rfl rfl ?_
       refine lo rfl (pr_and (ib_and32 _ (255#32)) rfl rfl rfl) rfl rfl ?_
       refine lo rfl (pr_or (ib_or32 _ _) rfl rfl rfl) rfl rfl ?_
       refine lo rfl (pr_ixa (j := i - 16) (m' := i - 16) sd (by omega) Try.underlying65 (z := 1) kr rfl rfl rfl) rfl rfl ?_
       refine L_op rfl (op_store (vs := [(b32 (((ath (dig 32 40 (redk v k)) i) >>> 2) ||| (((ath (dig 32 40 (redk v k)) (i + 1)) <<< 6) &&& 255#32)))]) (cs' := ((List.set (redhigh (redk v k) i) (i - 16) (((ath (dig 32 40 (redk v k)) i) >>> 2) ||| (((ath (dig 32 40 (redk v k)) (i + 1)) <<< 6) &&& 255#32))).map b32)) 1 rfl rfl kr (one_one rfl) (stl sd) (splice_map (f := b32) sd) rfl rfl rfl rfl ?_)
       refine L_nil ?_
       refine T_reg hF rfl ?_
       refine lm rfl rfl rfl rfl rfl ?_
       refine lo rfl (pr_add (na_i64 (a := i) (b := 1) sd) rfl rfl rfl) rfl rfl ?_
       refine la rfl rfl rfl rfl rfl ?_
       refine L_nil ?_
       refine T_as 1 _ (.blk g5 65 ((redlow (redk v k) (i + 1)).map b32)) rfl (by first | (exfalso; omega) | rw [redlow_set (redk v k) i (by omega)] | rw [redlow_stay (redk v k) i (by omega)] | rw [redlow_s16 (redk v k) i (by omega)]) ?_
       refine T_as 1 _ (.blk g4 65 ((redhigh (redk v k) (i + 1)).map b32)) rfl (by first | (exfalso; omega) | rw [redhigh_stay (redk v k) i (by omega)] | rw [redhigh_set (redk v k) i (by omega) (by omega) _ (redk_lt40 v k hv) (by rw [if_pos (by omega)])] | rw [redhigh_set (redk v k) i (by omega) (by omega) _ (redk_lt40 v k hv) (by rw [if_neg (by omega)])]) ?_
       exact T_again (i + 1) (by first | trivial | ((try dsimp only); first | omega | (refine ⟨?_, ?_⟩ <;> omega) | (refine ⟨?_, ?_, ?_⟩ <;> omega) | (simp; done) | (simp; omega))) (by first | trivial | ((try dsimp only); first | omega | (refine ⟨?_, ?_⟩ <;> omega) | (refine ⟨?_, ?_, ?_⟩ <;> omega) | (simp; done) | (simp; omega))) (sc rfl (sc rfl (sc rfl (sc rfl (sc rfl (sc rfl sn)))))) [1, 0, 2, 3] ⟨by decide, rfl⟩
      ·
       have hc_12 := of_decide_eq_false hc_12
       refine T_skip ?_
       refine T_reg hF rfl ?_
       refine lm rfl rfl rfl rfl rfl ?_
       refine lo rfl (pr_sub (ns_i64 (a := i) (b := 16) sd sd) rfl rfl rfl) rfl rfl ?_
       refine lm rfl rfl rfl rfl rfl ?_
       refine lo rfl (pr_ixa (j := i) (m' := i) sd (by omega) Try.underlying65 (z := 1) kr rfl rfl rfl) rfl rfl ?_
       refine lq rfl (ld_blk 3 rfl (get32 sd) Try.underlying63 rfl rfl rfl) rfl rfl ?_
       refine lo rfl (pr_shift (sh_shr32 (ath (dig 32 40 (redk v k)) i) _ 2) rfl rfl rfl rfl) rfl rfl ?_
       refine lm rfl rfl rfl rfl rfl ?_
       refine lo rfl (pr_shift (sh_shl32 (0#32) _ 6) rfl rfl rfl rfl) rfl rfl ?_
       refine lo rfl (pr_and (ib_and32 _ (255#32)) rfl rfl rfl) rfl rfl ?_
       refine lo rfl (pr_or (ib_or32 _ _) rfl rfl rfl) rfl rfl ?_
       refine lo rfl (pr_ixa (j := i - 16) (m' := i - 16) sd (by omega) Try.underlying65 (z := 1) kr rfl rfl rfl) rfl rfl ?_
       refine L_op rfl (op_store (vs := [(b32 (((ath (dig 32 40 (redk v k)) i) >>> 2) ||| ((0#32 <<< 6) &&& 255#32)))]) (cs' := ((List.set (redhigh (redk v k) i) (i - 16) (((ath (dig 32 40 (redk v k)) i) >>> 2) ||| ((0#32 <<< 6) &&& 255#32))).map b32)) 1 rfl rfl kr (one_one rfl) (stl sd) (splice_map (f := b32) sd) rfl rfl rfl rfl ?_)
       refine L_nil ?_
       refine T_reg hF rfl ?_
       refine lm rfl rfl rfl rfl rfl ?_
       refine lo rfl (pr_add (na_i64 (a := i) (b := 1) sd) rfl rfl rfl) rfl rfl ?_
       refine la rfl rfl rfl rfl rfl ?_
       refine L_nil ?_
       refine T_as 1 _ (.blk g5 65 ((redlow (redk v k) (i + 1)).map b32)) rfl (by first | (exfalso; omega) | rw [redlow_set (redk v k) i (by omega)] | rw [redlow_stay (redk v k) i (by omega)] | rw [redlow_s16 (redk v k) i (by omega)]) ?_
       refine T_as 1 _ (.blk g4 65 ((redhigh (redk v k) (i + 1)).map b32)) rfl (by first | (exfalso; omega) | rw [redhigh_stay (redk v k) i (by omega)] | rw [redhigh_set (redk v k) i (by omega) (by omega) _ (redk_lt40 v k hv) (by rw [if_pos (by omega)])] | rw [redhigh_set (redk v k) i (by omega) (by omega) _ (redk_lt40 v k hv) (by rw [if_neg (by omega)])]) ?_
       exact T_again (i + 1) (by first | trivial | ((try dsimp only); first | omega | (refine ⟨?_, ?_⟩ <;> omega) | (refine ⟨?_, ?_, ?_⟩ <;> omega) | (simp; done) | (simp; omega))) (by first | trivial | ((try dsimp only); first | omega | (refine ⟨?_, ?_⟩ <;> omega) | (refine ⟨?_, ?_, ?_⟩ <;> omega) | (simp; done) | (simp; omega))) (sc rfl (sc rfl (sc rfl (sc rfl (sc rfl (sc rfl sn)))))) [1, 0, 2, 3] ⟨by decide, rfl⟩
     ·
      have hc_11 := of_decide_eq_false hc_11
      refine T_skip ?_
      refine T_reg hF rfl ?_
      refine lm rfl rfl rfl rfl rfl ?_
      refine lo rfl (pr_add (na_i64 (a := i) (b := 1) sd) rfl rfl rfl) rfl rfl ?_
      refine la rfl rfl rfl rfl rfl ?_
      refine L_nil ?_
      refine T_as 0 _ (.blk g5 65 ((redlow (redk v k) (i + 1)).map b32)) rfl (by first | (exfalso; omega) | rw [redlow_set (redk v k) i (by omega)] | rw [redlow_stay (redk v k) i (by omega)] | rw [redlow_s16 (redk v k) i (by omega)]) ?_
      refine T_as 1 _ (.blk g4 65 ((redhigh (redk v k) (i + 1)).map b32)) rfl (by first | (exfalso; omega) | rw [redhigh_stay (redk v k) i (by omega)] | rw [redhigh_set (redk v k) i (by omega) (by omega) _ (redk_lt40 v k hv) (by rw [if_pos (by omega)])] | rw [redhigh_set (redk v k) i (by omega) (by omega) _ (redk_lt40 v k hv) (by rw [if_neg (by omega)])]) ?_
      exact T_again (i + 1) (by first | trivial | ((try dsimp only); first | omega | (refine ⟨?_, ?_⟩ <;> omega) | (refine ⟨?_, ?_, ?_⟩ <;> omega) | (simp; done) | (simp; omega))) (by first | trivial | ((try dsimp only); first | omega | (refine ⟨?_, ?_⟩ <;> omega) | (refine ⟨?_, ?_, ?_⟩ <;> omega) | (simp; done) | (simp; omega))) (sc rfl (sc rfl (sc rfl (sc rfl (sc rfl (sc rfl sn)))))) [1, 0, 2, 3] ⟨by decide, rfl⟩
    ·
     have hc_10 : ¬ i = 16 := by simpa using hc_10
     refine T_skip ?_
     refine Tsr hF rfl ?_
     refine lm rfl rfl rfl rfl rfl ?_
     refine lo rfl (pr_cmp (bo := .geq) (nc_le (a := 16) (b := i)) rfl rfl rfl rfl) rfl rfl ?_
     refine L_nil ?_
     refine T_cond (decide (16 ≤ i)) rfl (fun hc_13 => ?_) (fun hc_13 => ?_)
     ·
      have hc_13 := of_decide_eq_true hc_13
      refine Tsr hF rfl ?_
      refine la rfl rfl rfl rfl rfl ?_
      refine L_nil ?_
      refine T_seq ?_
      refine Tsr hF rfl ?_
      refine lm rfl rfl rfl rfl rfl ?_
      refine lo rfl (pr_add (na_i64 (a := i) (b := 1) sd) rfl rfl rfl) rfl rfl ?_
      refine lo rfl (pr_cmp (bo := .lss) (nc_lt (a := i + 1) (b := 40)) rfl rfl rfl rfl) rfl rfl ?_
      refine L_nil ?_
      refine T_cond (decide (i + 1 < 40)) rfl (fun hc_14 => ?_) (fun hc_14 => ?_)
      ·
       have hc_14 := of_decide_eq_true hc_14
       refine T_reg hF rfl ?_
       refine lm rfl rfl rfl rfl rfl ?_
       refine lo rfl (pr_add (na_i64 (a := i) (b := 1) sd) rfl rfl rfl) rfl rfl ?_
       refine lo rfl (pr_ixa (j := i + 1) (m' := i + 1) sd (by omega) Try.underlying65 (z := 1) kr rfl rfl rfl) rfl rfl ?_
       refine lq rfl (ld_blk 3 rfl (get32 sd) Try.underlying63 rfl rfl rfl) rfl rfl ?_
       refine la rfl rfl rfl rfl rfl ?_
       refine L_nil ?_
       refine T_reg hF rfl ?_
       refine lm rfl rfl rfl rfl rfl ?_
       refine lo rfl (pr_sub (ns_i64 (a := i) (b := 16) sd sd) rfl rfl rfl) rfl rfl ?_
       refine lm rfl rfl rfl rfl rfl ?_
       refine lo rfl (pr_ixa (j := i) (m' := i) sd (by omega) Try.underlying65 (z := 1) kr rfl rfl rfl) rfl rfl ?_
       refine lq rfl (ld_blk 3 rfl (get32 sd) Try.underlying63 rfl rfl rfl) rfl rfl ?_
       refine lo rfl (pr_shift (sh_shr32 (ath (dig 32 40 (redk v k)) i) _ 2) rfl rfl rfl rfl) rfl rfl ?_
       refine lm rfl rfl rfl rfl rfl ?_
       refine lo rfl (pr_shift (sh_shl32 (ath (dig 32 40 (redk v k)) (i + 1)) _ 6) rfl rfl rfl rfl) rfl rfl ?_
       refine lo rfl (pr_and (ib_and32 _ (255#32)) rfl rfl rfl) rfl rfl ?_
       refine lo rfl (pr_or (ib_or32 _ _) rfl rfl rfl) rfl rfl ?_
       refine lo rfl (pr_ixa (j := i - 16) (m' := i - 16) sd (by omega) Try.underlying65 (z := 1) kr rfl rfl rfl) rfl rfl ?_
       refine L_op rfl (op_store (vs := [(b32 (((ath (dig 32 40 (redk v k)) i) >>> 2) ||| (((ath (dig 32 40 (redk v k)) (i + 1)) <<< 6) &&& 255#32)))]) (cs' := ((List.set (redhigh (redk v k) i) (i - 16) (((ath (dig 32 40 (redk v k)) i) >>> 2) ||| (((ath (dig 32 40 (redk v k)) (i + 1)) <<< 6) &&& 255#32))).map b32)) 1 rfl rfl kr (one_one rfl) (stl sd) (splice_map (f := b32) sd) rfl rfl rfl rfl ?_)
       refine L_nil ?_
       refine T_reg hF rfl ?_
       refine lm rfl rfl rfl rfl rfl ?_
       refine lo rfl (pr_add (na_i64 (a := i) (b := 1) sd) rfl rfl rfl) rfl rfl ?_
       refine la rfl rfl rfl rfl rfl ?_
       refine L_nil ?_
       refine T_as 1 _ (.blk g5 65 ((redlow (redk v k) (i + 1)).map b32)) rfl (by first | (exfalso; omega) | rw [redlow_set (redk v k) i (by omega)] | rw [redlow_stay (redk v k) i (by omega)] | rw [redlow_s16 (redk v k) i (by omega)]) ?_
       refine T_as 1 _ (.blk g4 65 ((redhigh (redk v k) (i + 1)).map b32)) rfl (by first | (exfalso; omega) | rw [redhigh_stay (redk v k) i (by omega)] | rw [redhigh_set (redk v k) i (by omega) (by omega) _ (redk_lt40 v k hv) (by rw [if_pos (by omega)])] | rw [redhigh_set (redk v k) i (by omega) (by omega) _ (redk_lt40 v k hv) (by rw [if_neg (by omega)])]) ?_
       exact T_again (i + 1) (by first | trivial | ((try dsimp only); first | omega | (refine ⟨?_, ?_⟩ <;> omega) | (refine ⟨?_, ?_, ?_⟩ <;> omega) | (simp; done) | (simp; omega))) (by first | trivial | ((try dsimp only); first | omega | (refine ⟨?_, ?_⟩ <;> omega) | (refine ⟨?_, ?_, ?_⟩ <;> omega) | (simp; done) | (simp; omega))) (sc rfl (sc rfl (sc rfl (sc rfl (sc rfl (sc rfl sn)))))) [1, 0, 2, 3] ⟨by decide, rfl⟩
      ·
       have hc_14 := of_decide_eq_false hc_14
       refine T_skip ?_
       refine T_reg hF rfl ?_
       refine lm rfl rfl rfl rfl rfl ?_
       refine lo rfl (pr_sub (ns_i64 (a := i) (b := 16) sd sd) rfl rfl rfl) rfl rfl ?_
       refine lm rfl rfl rfl rfl rfl ?_
       refine lo rfl (pr_ixa (j := i) (m' := i) sd (by omega) Try.underlying65 (z := 1) kr rfl rfl rfl) rfl rfl ?_
       refine lq rfl (ld_blk 3 rfl (get32 sd) Try.underlying63 rfl rfl rfl) rfl rfl ?_
       refine lo rfl (pr_shift (sh_shr32 (ath (dig 32 40 (redk v k)) i) _ 2) rfl rfl rfl rfl) rfl rfl ?_
       refine lm rfl rfl rfl rfl rfl ?_
       refine lo rfl (pr_shift (sh_shl32 (0#32) _ 6) rfl rfl rfl rfl) rfl rfl ?_
       refine lo rfl (pr_and (ib_and32 _ (255#32)) rfl rfl rfl) rfl rfl ?_
       refine lo rfl (pr_or (ib_or32 _ _) rfl rfl rfl) rfl rfl ?_
       refine lo rfl (pr_ixa (j := i - 16) (m' := i - 16) sd (by omega) Try.underlying65 (z := 1) kr rfl rfl rfl) rfl rfl ?_
       refine L_op rfl (op_store (vs := [(b32 (((ath (dig 32 40 (redk v k)) i) >>> 2) ||| ((0#32 <<< 6) &&& 255#32)))]) (cs' := ((List.set (redhigh (redk v k) i) (i - 16) (((ath (dig 32 40 (redk v k)) i) >>> 2) ||| ((0#32 <<< 6) &&& 255#32))).map b32)) 1 rfl rfl kr (one_one rfl) (stl sd) (splice_map (f := b32) sd) rfl rfl rfl rfl ?_)
       refine L_nil ?_
       refine T_reg hF rfl ?_
       refine lm rfl rfl rfl rfl rfl ?_
       refine lo rfl (pr_add (na_i64 (a := i) (b := 1) sd) rfl rfl rfl) rfl rfl ?_
       refine la rfl rfl rfl rfl rfl ?_
       refine L_nil ?_
       refine T_as 1 _ (.blk g5 65 ((redlow (redk v k) (i + 1)).map b32)) rfl (by first | (exfalso; omega) | rw [redlow_set (redk v k) i (by omega)] | rw [redlow_stay (redk v k) i (by omega)] | rw [redlow_s16 (redk v k) i (by omega)]) ?_
       refine T_as 1 _ (.blk g4 65 ((redhigh (redk v k) (i + 1)).map b32)) rfl (by first | (exfalso; omega) | rw [redhigh_stay (redk v k) i (by omega)] | rw [redhigh_set (redk v k) i (by omega) (by omega) _ (redk_lt40 v k hv) (by rw [if_pos (by omega)])] | rw [redhigh_set (redk v k) i (by omega) (by omega) _ (redk_lt40 v k hv) (by rw [if_neg (by omega)])]) ?_
       exact T_again (i + 1) (by first | trivial | ((try dsimp only); first | omega | (refine ⟨?_, ?_⟩ <;> omega) | (refine ⟨?_, ?_, ?_⟩ <;> omega) | (simp; done) | (simp; omega))) (by first | trivial | ((try dsimp only); first | omega | (refine ⟨?_, ?_⟩ <;> omega) | (refine ⟨?_, ?_, ?_⟩ <;> omega) | (simp; done) | (simp; omega))) (sc rfl (sc rfl (sc rfl (sc rfl (sc rfl (sc rfl sn)))))) [1, 0, 2, 3] ⟨by decide, rfl⟩
     ·
      have hc_13 := of_decide_eq_false hc_13
      refine T_skip ?_
      refine T_reg hF rfl ?_
      refine lm rfl rfl rfl rfl rfl ?_
      refine lo rfl (pr_add (na_i64 (a := i) (b := 1) sd) rfl rfl rfl) rfl rfl ?_
      refine la rfl rfl rfl rfl rfl ?_
      refine L_nil ?_
      refine T_as 0 _ (.blk g5 65 ((redlow (redk v k) (i + 1)).map b32)) rfl (by first | (exfalso; omega) | rw [redlow_set (redk v k) i (by omega)] | rw [redlow_stay (redk v k) i (by omega)] | rw [redlow_s16 (redk v k) i (by omega)]) ?_
      refine T_as 1 _ (.blk g4 65 ((redhigh (redk v k) (i + 1)).map b32)) rfl (by first | (exfalso; omega) | rw [redhigh_stay (redk v k) i (by omega)] | rw [redhigh_set (redk v k) i (by omega) (by omega) _ (redk_lt40 v k hv) (by rw [if_pos (by omega)])] | rw [redhigh_set (redk v k) i (by omega) (by omega) _ (redk_lt40 v k hv) (by rw [if_neg (by omega)])]) ?_
      exact T_again (i + 1) (by first | trivial | ((try dsimp only); first | omega | (refine ⟨?_, ?_⟩ <;> omega) | (refine ⟨?_, ?_, ?_⟩ <;> omega) | (simp; done) | (simp; omega))) (by first | trivial | ((try dsimp only); first | omega | (refine ⟨?_, ?_⟩ <;> omega) | (refine ⟨?_, ?_, ?_⟩ <;> omega) | (simp; done) | (simp; omega))) (sc rfl (sc rfl (sc rfl (sc rfl (sc rfl (sc rfl sn)))))) [1, 0, 2, 3] ⟨by decide, rfl⟩
  ·
   have hc_6 := of_decide_eq_false hc_6
   refine T_exit rfl ?_
   obtain rfl : 40 = i := by omega
   refine T_seq ?_
   refine Tsr hF rfl ?_
   refine la rfl rfl rfl rfl rfl ?_
   refine L_nil ?_
   refine T_block ?_
   refine T_as 0 _ (.blk g5 65 ((lowhigh (redk v k) 0).map b32)) rfl (by rw [redlow_all, lowhigh_zero]) ?_
   refine T_as 1 _ (.blk g4 65 ((dig 32 40 ((redk v k) / 1361129467683753853853498429727072845824)).map b32)) rfl (by rw [redhigh_all _ (redk_lt40 v k hv)]) ?_
   refine T_loop (T := Nat) (fun q => q ≤ 40) (fun q => [(1, (.pointer (some ⟨g1, 0, none⟩))), (2, (.pointer (some ⟨g2, 0, none⟩))), (3, (.int .i64 ((k : Nat) : Int))), (4, (.pointer (some ⟨g4, 0, none⟩))), (5, (.pointer (some ⟨g5, 0, none⟩))), (8, (.int .i64 ((q : Nat) : Int)))]) (fun q => [.blk g5 65 ((lowhigh (redk v k) q).map b32), .blk g4 65 ((dig 32 40 ((redk v k) / 1361129467683753853853498429727072845824)).map b32), .blk g2 65 ((List.replicate 40 0#32).map b32), .blk g1 65 ((dig 32 40 (redk v k)).map b32)]) (fun q => 40 - q) 0 (by first | trivial | ((try dsimp only); first | omega | (refine ⟨?_, ?_⟩ <;> omega) | (refine ⟨?_, ?_, ?_⟩ <;> omega) | (simp; done) | (simp; omega))) (sc rfl (sc rfl (sc rfl (sc rfl (sc rfl (sc rfl sn)))))) [1, 0, 2, 3] ⟨by decide, rfl⟩ ?_
   rintro q hp
   have hp : q ≤ 40 := hp
   have hlh := lowhigh_len (redk v k) q
   have hd1 := hdl ((redk v k) / 1361129467683753853853498429727072845824)
   refine T_re [(1, (.pointer (some ⟨g1, 0, none⟩))), (2, (.pointer (some ⟨g2, 0, none⟩))), (3, (.int .i64 ((k : Nat) : Int))), (4, (.pointer (some ⟨g4, 0, none⟩))), (5, (.pointer (some ⟨g5, 0, none⟩))), (8, (.int .i64 ((q : Nat) : Int)))] (sc rfl (sc rfl (sc rfl (sc rfl (sc rfl (sc rfl sn)))))) ?_
   refine T_he [0, 1, 2, 3] [.blk g5 65 ((lowhigh (redk v k) q).map b32), .blk g4 65 ((dig 32 40 ((redk v k) / 1361129467683753853853498429727072845824)).map b32), .blk g2 65 ((List.replicate 40 0#32).map b32), .blk g1 65 ((dig 32 40 (redk v k)).map b32)] ⟨by decide, rfl⟩ ?_
   refine T_seq ?_
   refine Tsr hF rfl ?_
   refine lm rfl rfl rfl rfl rfl ?_
   refine lo rfl (pr_cmp (bo := .lss) (nc_lt (a := q) (b := 40)) rfl rfl rfl rfl) rfl rfl ?_
   refine L_nil ?_
   refine T_cond (decide (q < 40)) rfl (fun hc_15 => ?_) (fun hc_15 => ?_)
   ·
    have hc_15 := of_decide_eq_true hc_15
    refine T_skip ?_
    refine T_seq ?_
    refine T_block ?_
    refine T_regD [.blk g5 65 ((lowhigh (redk v k) q).map b32), .blk g4 65 ((dig 32 40 ((redk v k) / 1361129467683753853853498429727072845824)).map b32), .blk g2 65 ((List.replicate 40 0#32).map b32), .blk g1 65 ((dig 32 40 (redk v k)).map b32)] 10 11 #[false, false, false, false, false, false, false, false, false, false, false] hF kr kr ?_
    refine D_pure (i := 0) [0, 1, 2, 3] rfl kr rfl (pr_move rfl rfl) (.inr rfl) rfl rfl ?_
    refine D_pure (i := 1) [0, 1, 2, 3] rfl kr rfl (pr_move rfl rfl) (.inr rfl) rfl rfl ?_
    refine D_pure (i := 2) [0, 1, 2, 3] rfl kr rfl (pr_ixa (j := q) (m' := q) sd (by omega) Try.underlying65 (z := 1) kr rfl rfl rfl) (.inr rfl) rfl rfl ?_
    refine D_pure (i := 4) [0, 1, 2, 3] rfl kr rfl (pr_move rfl rfl) (.inr rfl) rfl rfl ?_
    refine D_pure (i := 5) [0, 1, 2, 3] rfl kr rfl (pr_ixa (j := q) (m' := q) sd (by omega) Try.underlying65 (z := 1) kr rfl rfl rfl) (.inr rfl) rfl rfl ?_
    refine D_take (i := 3) [0, 1, 2, 3] rfl kr rfl (ld_blk 0 rfl (get32 sd) Try.underlying63 rfl rfl rfl) rfl rfl rfl ?_
    refine D_take (i := 6) [0, 1, 2, 3] rfl kr rfl (ld_blk 1 rfl (get32 sd) Try.underlying63 rfl rfl rfl) rfl rfl rfl ?_
    refine D_pure (i := 7) [0, 1, 2, 3] rfl kr rfl (pr_mul (mul32 (5#32) _) rfl rfl rfl) (.inr rfl) rfl rfl ?_
    refine D_pure (i := 8) [0, 1, 2, 3] rfl kr rfl (pr_add (add32 _ _) rfl rfl rfl) (.inr rfl) rfl rfl ?_
    refine D_pure (i := 9) [0, 1, 2, 3] rfl kr rfl (pr_ixa (j := q) (m' := q) sd (by omega) Try.underlying65 (z := 1) kr rfl rfl rfl) (.inr rfl) rfl rfl ?_
    refine D_one 10 _ rfl kr rfl (op_store (vs := [(b32 ((ath (lowhigh (redk v k) q) q) + (5#32 * (ath (dig 32 40 ((redk v k) / 1361129467683753853853498429727072845824)) q))))]) (cs' := ((List.set (lowhigh (redk v k) q) q ((ath (lowhigh (redk v k) q) q) + (5#32 * (ath (dig 32 40 ((redk v k) / 1361129467683753853853498429727072845824)) q)))).map b32)) 0 rfl rfl kr (one_one rfl) (stl sd) (splice_map (f := b32) sd) rfl rfl rfl rfl ?_)
    refine D_past kr ?_
    refine D_done kr ?_
    refine T_reg hF rfl ?_
    refine lm rfl rfl rfl rfl rfl ?_
    refine lo rfl (pr_add (na_i64 (a := q) (b := 1) sd) rfl rfl rfl) rfl rfl ?_
    refine la rfl rfl rfl rfl rfl ?_
    refine L_nil ?_
    refine T_as 0 _ (.blk g5 65 ((lowhigh (redk v k) (q + 1)).map b32)) rfl (by rw [lowhigh_set _ _ (by omega)]) ?_
    exact T_again (q + 1) (by first | trivial | ((try dsimp only); first | omega | (refine ⟨?_, ?_⟩ <;> omega) | (refine ⟨?_, ?_, ?_⟩ <;> omega) | (simp; done) | (simp; omega))) (by first | trivial | ((try dsimp only); first | omega | (refine ⟨?_, ?_⟩ <;> omega) | (refine ⟨?_, ?_, ?_⟩ <;> omega) | (simp; done) | (simp; omega))) (sc rfl (sc rfl (sc rfl (sc rfl (sc rfl (sc rfl sn)))))) [0, 1, 2, 3] ⟨by decide, rfl⟩
   ·
    have hc_15 := of_decide_eq_false hc_15
    refine T_exit rfl ?_
    obtain rfl : 40 = q := by omega
    refine T_reg hF rfl ?_
    refine lq rfl (ld_agg (ds := ((lowhigh (redk v k) 40).map b32)) 0 rfl agg_all Try.underlying65 rfl (fwz (n := 40) kr sd) rfl rfl) rfl rfl ?_
    refine L_op rfl (op_cn (fun w hw => rcarry_f (lowhigh (redk v k) 40) 2000 w (hok_nil w) (lowhigh_len _ _) (lowhigh_bd _) sd) (enters_of Try.func39 kr rfl) rfl rfl rfl rfl rfl (fun t16 q17 => ?_))
    refine T_slot 69 _ (.agg ((dig 32 40 (redk v (k + 1))).map b32).toArray) rfl (by rw [lowhigh_vw _ (redk_lt40 v k hv), redk_succ]) ?_
    refine L_op rfl (op_sto (n := 40) (vs := ((dig 32 40 (redk v (k + 1))).map b32)) 3 rfl rfl kr (all32_one _) sd sd rfl rfl rfl rfl ?_)
    refine L_nil ?_
    refine T_reg hF rfl ?_
    refine lm rfl rfl rfl rfl rfl ?_
    refine lo rfl (pr_add (na_i64 (a := k) (b := 1) sd) rfl rfl rfl) rfl rfl ?_
    refine la rfl rfl rfl rfl rfl ?_
    refine L_nil ?_
    exact T_again (k + 1) (by first | trivial | ((try dsimp only); first | omega | (refine ⟨?_, ?_⟩ <;> omega) | (refine ⟨?_, ?_, ?_⟩ <;> omega) | (simp; done) | (simp; omega))) (by first | trivial | ((try dsimp only); first | omega | (refine ⟨?_, ?_⟩ <;> omega) | (refine ⟨?_, ?_, ?_⟩ <;> omega) | (simp; done) | (simp; omega))) (sc rfl (sc rfl (sc rfl sn))) [3, 0] ⟨by decide, rfl⟩
 ·
  have hc_3 := of_decide_eq_false hc_3
  refine T_exit rfl ?_
  obtain rfl : 4 = k := by omega
  refine Tsr hF rfl ?_
  refine lq rfl (ld_agg (ds := ((dig 32 40 (redk v 4)).map b32)) 1 rfl agg_all Try.underlying65 rfl (fwz (n := 40) kr sd) rfl rfl) rfl rfl ?_
  refine L_op rfl (op_sto (n := 40) (vs := ((dig 32 40 (redk v 4)).map b32)) 0 rfl rfl kr (all32_one _) kr sd rfl rfl rfl rfl ?_)
  refine L_nil ?_
  refine T_ret ?_
  exact T_fin () (by first | trivial | omega | (simp; done)) (resb 0 rfl rfl rfl Try.underlying65 rfl (fwz (n := 40) kr sd)) [] ⟨by decide, rfl⟩ rfl
theorem least_add (A : Nat) (h : A < 256 ^ 40) : vw ((dig 32 40 A).set 0 (ath (dig 32 40 A) 0 + 5#32)) = A + 5 ∧ Bd 512 ((dig 32 40 A).set 0 (ath (dig 32 40 A) 0 + 5#32)) ∧ ((dig 32 40 A).set 0 (ath (dig 32 40 A) 0 + 5#32)).length = 40 := by
  have h0 := dig_bd 40 A 0
  have e5 : (5#32).toNat = 5 := rfl
  refine ⟨?_, bi_bd (bi_step (bi_zero 40 A) (by rw [dig_len]; omega) _ (by decide)), by rw [List.length_set, dig_len]⟩
  rw [vw_add _ _ _ (by rw [dig_len]; omega) (by omega), vw_dig _ _ _ (by omega), Nat.mod_eq_of_lt h, e5]
theorem lt40_of130 {A : Nat} (h : A < 1361129467683753853853498429727072845824) : A < 256 ^ 40 := Nat.lt_trans h (Nat.lt_of_lt_of_le (by decide : 1361129467683753853853498429727072845824 < 256 ^ 17) (Nat.pow_le_pow_right (by omega) (by omega)))
theorem least_lo2 (A : Nat) (h : ath (dig 32 40 (A + 5)) 16 < 4#32) (hA : A < 1361129467683753853853498429727072845824) : A = A % polyP := least_lo A (BitVec.lt_def.1 h) hA
theorem least_hi2 (A : Nat) (h : ¬ ath (dig 32 40 (A + 5)) 16 < 4#32) (hA : A < 1361129467683753853853498429727072845824) : (dig 32 40 (A + 5)).set 16 (ath (dig 32 40 (A + 5)) 16 - 4#32) = dig 32 40 (A % polyP) := least_hi A (fun h2 => h (BitVec.lt_def.2 h2)) hA

set_option maxHeartbeats 4000000 in
theorem rleast_f (Ac : Nat) (w : World) (hO : HOK [] w) (hA : Ac < 1361129467683753853853498429727072845824) : Calls Try.prog 41 [(.agg ((dig 32 40 Ac).map b32).toArray)].toArray w (Ret (T := Unit) [] w (fun _ => True) (fun _ => (.agg ((dig 32 40 (Ac % polyP)).map b32).toArray)) (fun _ => [])) := by
 have hd0 := dig_len 32 40 Ac
 have hd1 := dig_len 32 40 (Ac + 5)
 have hd2 := dig_len 32 40 (Ac % polyP)
 have hF : Wid Fence.wide := wid_wide
 refine enter (c := _) Try.func41 rfl [] [(.agg ((dig 32 40 Ac).map b32).toArray)] [] (by rw [Try.ntmps41]; rfl) (own_rds hO rfl) ?_
 rw [Try.ntmps41]
 refine T_re [(0, (.agg ((dig 32 40 Ac).map b32).toArray))] (sc rfl sn) ?_
 refine T_he [] [] ⟨by decide, rfl⟩ ?_
 refine Tsr hF rfl ?_
 refine L_op rfl (op_box (zs := ((dig 32 40 Ac).map b32)) rfl rfl rfl rfl rfl (fun g1 => ?_))
 refine L_op rfl (op_alloc (z := .agg ((List.replicate 40 0#32).map b32).toArray) (zs := ((List.replicate 40 0#32).map b32)) kr rfl rfl rfl rfl (fun g2 => ?_))
 refine L_nil ?_
 refine Tsr hF rfl ?_
 refine lq rfl (ld_agg (ds := ((dig 32 40 Ac).map b32)) 1 rfl agg_all Try.underlying65 rfl (fwz (n := 40) kr sd) rfl rfl) rfl rfl ?_
 refine L_op rfl (op_alloc (z := .agg ((List.replicate 40 0#32).map b32).toArray) (zs := ((List.replicate 40 0#32).map b32)) kr rfl rfl rfl rfl (fun g3 => ?_))
 refine L_op rfl (op_sto (n := 40) (vs := ((dig 32 40 Ac).map b32)) 0 rfl rfl kr (all32_one _) kr sd rfl rfl rfl rfl ?_)
 refine L_nil ?_
 refine Tsr hF rfl ?_
 refine lo rfl (pr_ixa (j := 0) (m' := 0) sd (by omega) Try.underlying65 (z := 1) kr rfl rfl rfl) rfl rfl ?_
 refine lq rfl (ld_blk 0 rfl (get32 sd) Try.underlying63 rfl rfl rfl) rfl rfl ?_
 refine lo rfl (pr_add (add32 _ (5#32)) rfl rfl rfl) rfl rfl ?_
 refine lo rfl (pr_ixa (j := 0) (m' := 0) sd (by omega) Try.underlying65 (z := 1) kr rfl rfl rfl) rfl rfl ?_
 refine L_op rfl (op_store (vs := [(b32 ((ath (dig 32 40 Ac) 0) + 5#32))]) (cs' := ((List.set (dig 32 40 Ac) 0 ((ath (dig 32 40 Ac) 0) + 5#32)).map b32)) 0 rfl rfl kr (one_one rfl) (stl sd) (splice_map (f := b32) sd) rfl rfl rfl rfl ?_)
 refine L_nil ?_
 refine Tsr hF rfl ?_
 refine lq rfl (ld_agg (ds := ((List.set (dig 32 40 Ac) 0 ((ath (dig 32 40 Ac) 0) + 5#32)).map b32)) 0 rfl agg_all Try.underlying65 rfl (fwz (n := 40) kr sd) rfl rfl) rfl rfl ?_
 refine L_op rfl (op_cn (fun w hw => rcarry_f (List.set (dig 32 40 Ac) 0 ((ath (dig 32 40 Ac) 0) + 5#32)) 512 w (hok_nil w) (least_add Ac (lt40_of130 hA)).2.2 (least_add Ac (lt40_of130 hA)).2.1 sd) (enters_of Try.func39 kr rfl) rfl rfl rfl rfl rfl (fun t4 q5 => ?_))
 refine T_slot 10 _ (.agg ((dig 32 40 (Ac + 5)).map b32).toArray) rfl (by rw [(least_add Ac (lt40_of130 hA)).1]) ?_
 refine L_op rfl (op_sto (n := 40) (vs := ((dig 32 40 (Ac + 5)).map b32)) 0 rfl rfl kr (all32_one _) sd sd rfl rfl rfl rfl ?_)
 refine L_nil ?_
 refine T_seq ?_
 refine Tsr hF rfl ?_
 refine lo rfl (pr_ixa (j := 16) (m' := 16) sd (by omega) Try.underlying65 (z := 1) kr rfl rfl rfl) rfl rfl ?_
 refine lq rfl (ld_blk 0 rfl (get32 sd) Try.underlying63 rfl rfl rfl) rfl rfl ?_
 refine lo rfl (pr_cmp (bo := .lss) (cm_lt32 (ath (dig 32 40 (Ac + 5)) 16) (4#32)) rfl rfl rfl rfl) rfl rfl ?_
 refine L_nil ?_
 refine T_cond (decide ((ath (dig 32 40 (Ac + 5)) 16) < 4#32)) rfl (fun hc_6 => ?_) (fun hc_6 => ?_)
 ·
  have hc_6 := of_decide_eq_true hc_6
  refine Tsr hF rfl ?_
  refine lq rfl (ld_agg (ds := ((dig 32 40 Ac).map b32)) 2 rfl agg_all Try.underlying65 rfl (fwz (n := 40) kr sd) rfl rfl) rfl rfl ?_
  refine L_op rfl (op_sto (n := 40) (vs := ((dig 32 40 Ac).map b32)) 1 rfl rfl kr (all32_one _) kr sd rfl rfl rfl rfl ?_)
  refine L_nil ?_
  refine T_ret ?_
  refine T_as 0 _ (.blk g2 65 ((dig 32 40 (Ac % polyP)).map b32)) rfl (by first | rw [least_hi2 Ac (by assumption) hA] | rw [← least_lo2 Ac (by assumption) hA]) ?_
  exact T_fin () (by first | trivial | omega | (simp; done)) (resb 0 rfl rfl rfl Try.underlying65 rfl (fwz (n := 40) kr sd)) [] ⟨by decide, rfl⟩ rfl
 ·
  have hc_6 := of_decide_eq_false hc_6
  refine T_skip ?_
  refine Tsr hF rfl ?_
  refine lo rfl (pr_ixa (j := 16) (m' := 16) sd (by omega) Try.underlying65 (z := 1) kr rfl rfl rfl) rfl rfl ?_
  refine lq rfl (ld_blk 0 rfl (get32 sd) Try.underlying63 rfl rfl rfl) rfl rfl ?_
  refine lo rfl (pr_sub (sub32 _ (4#32)) rfl rfl rfl) rfl rfl ?_
  refine lo rfl (pr_ixa (j := 16) (m' := 16) sd (by omega) Try.underlying65 (z := 1) kr rfl rfl rfl) rfl rfl ?_
  refine L_op rfl (op_store (vs := [(b32 ((ath (dig 32 40 (Ac + 5)) 16) - 4#32))]) (cs' := ((List.set (dig 32 40 (Ac + 5)) 16 ((ath (dig 32 40 (Ac + 5)) 16) - 4#32)).map b32)) 0 rfl rfl kr (one_one rfl) (stl sd) (splice_map (f := b32) sd) rfl rfl rfl rfl ?_)
  refine L_nil ?_
  refine Tsr hF rfl ?_
  refine lq rfl (ld_agg (ds := ((List.set (dig 32 40 (Ac + 5)) 16 ((ath (dig 32 40 (Ac + 5)) 16) - 4#32)).map b32)) 0 rfl agg_all Try.underlying65 rfl (fwz (n := 40) kr sd) rfl rfl) rfl rfl ?_
  refine L_op rfl (op_sto (n := 40) (vs := ((List.set (dig 32 40 (Ac + 5)) 16 ((ath (dig 32 40 (Ac + 5)) 16) - 4#32)).map b32)) 1 rfl rfl kr (all32_one _) kr sd rfl rfl rfl rfl ?_)
  refine L_nil ?_
  refine T_ret ?_
  refine T_as 0 _ (.blk g2 65 ((dig 32 40 (Ac % polyP)).map b32)) rfl (by first | rw [least_hi2 Ac (by assumption) hA] | rw [← least_lo2 Ac (by assumption) hA]) ?_
  exact T_fin () (by first | trivial | omega | (simp; done)) (resb 0 rfl rfl rfl Try.underlying65 rfl (fwz (n := 40) kr sd)) [] ⟨by decide, rfl⟩ rfl
theorem ad_len {A : Nat} {b : List (BitVec 8)} {i : Nat} {xs : List (BitVec 32)} (h : Ad A b i xs) : xs.length = 40 := by unfold Ad at h; exact h.1
theorem dig_zero40 : List.replicate 40 0#32 = dig 32 40 0 := ext_ath (by rw [dig_len, List.length_replicate]) (fun j hj => by
  rw [List.length_replicate] at hj
  rw [dig_at _ _ _ _ hj, Nat.zero_div]
  exact ath_repz 40 j)
theorem mu_len {V R i k : Nat} {xs : List (BitVec 32)} (h : Mu V R i k xs) : xs.length = 40 := by unfold Mu at h; exact h.1
theorem pblk_at (t : List (BitVec 8)) (k i : Nat) (h : i < 16) : ath t (16 * k + i) = ath (pblk t k) i := by
  unfold pblk; rw [ath_take _ _ _ h, ath_drop]
theorem pblk_len (t : List (BitVec 8)) (k n : Nat) (h : t.length = n) : (pblk t k).length = min 16 (n - 16 * k) := by unfold pblk; simp [h]
theorem pacc_end (key t : List (BitVec 8)) (A k n : Nat) (h : t.length = n) (hA : A % polyP = pacc (pr key) t k) (h1 : n ≤ 16 * k) (h2 : 16 * k < n + 16) : dig 8 16 (A % polyP + ps key) = ptag key t :=
  ptag_of key t _ (by rw [hA]; congr 1; omega)
theorem vlt (A : Nat) (b : List (BitVec 8)) (hA : A < 1361129467683753853853498429727072845824) (hb : b.length ≤ 16) : A + pv b < 2 ^ 131 ∧ A + pv b < 256 ^ 18 ∧ A + pv b < 256 ^ 40 := by
  have h1 := pv_lt b hb
  have h2 : (2 : Nat) ^ 131 = 2722258935367507707706996859454145691648 := rfl
  have h3 : (2 : Nat) ^ 129 = 680564733841876926926749214863536422912 := rfl
  rw [h3] at h1
  have h4 : A + pv b < 2 ^ 131 := by rw [h2]; omega
  have h5 : A + pv b < 256 ^ 18 := Nat.lt_trans h4 (by decide)
  exact ⟨h4, h5, Nat.lt_of_lt_of_le h5 (Nat.pow_le_pow_right (by omega) (by omega))⟩
theorem key_at (key : List (BitVec 8)) (i : Nat) (h : i < 16) : ath key (16 + i) = ath (List.take 16 (List.drop 16 key)) i := by rw [ath_take _ _ _ h, ath_drop]
theorem ad_all {A : Nat} {b : List (BitVec 8)} {i : Nat} {xs : List (BitVec 32)} (h : Ad A b i xs) (hi : b.length ≤ i) : vw xs = A + vw b ∧ Bd 512 xs := by
  unfold Ad at h
  obtain ⟨h1, h2, h3⟩ := h
  rw [List.take_of_length_le hi] at h2
  exact ⟨h2, bi_bd h3⟩
theorem mult_lt (V R : Nat) (hV : V < 2 ^ 131) (hR : R < 2 ^ 124) : V * R < 2 ^ 256 := Nat.lt_trans (Nat.mul_lt_mul'' hV hR) (by decide)
theorem modP_lt (A : Nat) : A % polyP < 256 ^ 40 := lt40_of130 (Nat.lt_trans (Nat.mod_lt _ (by rw [polyP_eq]; decide)) (by rw [polyP_eq]; decide))

set_option maxHeartbeats 4000000 in
theorem rtag_f (key : List (BitVec 8)) (ts : List (BitVec 8)) (A : Option Addr) (n : Nat) (c : Nat) (w : World) (hO : HOK [.rd A 1 n c (ts.map b8)] w) (hkl : key.length = 32) (hx : ts.length = n) (hn : n ≤ 1000000000) : Calls Try.prog 19 [(.agg (key.map b8).toArray), (.slice A n c)].toArray w (Ret (T := Unit) [] w (fun _ => True) (fun _ => (.agg ((ptag key ts).map b8).toArray)) (fun _ => [])) := by
 have hdl := fun v => dig_len 32 40 v
 have hcl := clampb_len key
 have hpl := ptag_len key ts
 have hkt : (List.take 16 (List.drop 16 key)).length = 16 := by simp; omega
 have hF : Wid Fence.wide := wid_wide
 refine enter (c := _) Try.func19 rfl [] [(.agg (key.map b8).toArray), (.slice A n c)] [.rd A 1 n c (ts.map b8)] (by rw [Try.ntmps19]; rfl) (own_rds hO rfl) ?_
 rw [Try.ntmps19]
 refine T_re [(0, (.agg (key.map b8).toArray)), (1, (.slice A n c))] (sc rfl (sc rfl sn)) ?_
 refine T_he [0] [.rd A 1 n c (ts.map b8)] ⟨by decide, rfl⟩ ?_
 refine Tsr hF rfl ?_
 refine L_op rfl (op_box (zs := (key.map b8)) rfl rfl rfl rfl rfl (fun g1 => ?_))
 refine L_op rfl (op_alloc (z := .agg ((List.replicate 16 0#8).map b8).toArray) (zs := ((List.replicate 16 0#8).map b8)) kr rfl rfl rfl rfl (fun g2 => ?_))
 refine L_nil ?_
 refine Tsr hF rfl ?_
 refine lq rfl (ld_agg (ds := (key.map b8)) 1 rfl agg_all Try.underlying22 rfl (fwz (n := 32) kr sd) rfl rfl) rfl rfl ?_
 refine L_op rfl (op_cn (fun w hw => rclamp_f key w (hok_nil w) sd) (enters_of Try.func21 kr rfl) rfl rfl rfl rfl rfl (fun t3 q4 => ?_))
 refine L_op rfl (op_alloc (z := .agg ((List.replicate 16 0#8).map b8).toArray) (zs := ((List.replicate 16 0#8).map b8)) kr rfl rfl rfl rfl (fun g5 => ?_))
 refine L_op rfl (op_sto (n := 16) (vs := ((clampb key).map b8)) 0 rfl rfl kr (all8_one _) kr sd rfl rfl rfl rfl ?_)
 refine L_nil ?_
 refine Tsr hF rfl ?_
 refine L_op rfl (op_alloc (z := .agg ((List.replicate 40 0#32).map b32).toArray) (zs := ((List.replicate 40 0#32).map b32)) kr rfl rfl rfl rfl (fun g6 => ?_))
 refine L_nil ?_
 refine T_seq ?_
 refine Tsr hF rfl ?_
 refine la rfl rfl rfl rfl rfl ?_
 refine L_nil ?_
 refine T_block ?_
 refine T_slot 7 (.int .i64 ((0 : Nat) : Int)) (.int .i64 ((16 * 0 : Nat) : Int)) rfl (by first | rfl | (congr 2; omega) | (simp; omega)) ?_
 refine T_as 0 _ (.blk g6 65 ((dig 32 40 0).map b32)) rfl (by rw [dig_zero40]) ?_
 refine T_loop (T := Nat × Nat) (fun ⟨k, Ac⟩ => Ac < 1361129467683753853853498429727072845824 ∧ Ac % polyP = pacc (pr key) ts k ∧ 16 * k < n + 16) (fun ⟨k, Ac⟩ => [(1, (.slice A n c)), (2, (.pointer (some ⟨g1, 0, none⟩))), (4, (.pointer (some ⟨g2, 0, none⟩))), (5, (.pointer (some ⟨g5, 0, none⟩))), (6, (.pointer (some ⟨g6, 0, none⟩))), (7, (.int .i64 ((16 * k : Nat) : Int)))]) (fun ⟨k, Ac⟩ => [.blk g6 65 ((dig 32 40 Ac).map b32), .blk g5 27 ((clampb key).map b8), .blk g2 27 ((List.replicate 16 0#8).map b8), .blk g1 22 (key.map b8), .rd A 1 n c (ts.map b8)]) (fun ⟨k, Ac⟩ => n + 16 - 16 * k) (0, 0) (⟨by decide, by rw [pacc_zero]; rfl, by omega⟩) (sc rfl (sc rfl (sc rfl (sc rfl (sc rfl (sc rfl sn)))))) [0, 1, 2, 3, 4] ⟨by decide, rfl⟩ ?_
 rintro ⟨k, Ac⟩ hp
 have hp : Ac < 1361129467683753853853498429727072845824 ∧ Ac % polyP = pacc (pr key) ts k ∧ 16 * k < n + 16 := hp
 have hp0 := hp
 have hd0 := hdl Ac
 refine T_re [(1, (.slice A n c)), (2, (.pointer (some ⟨g1, 0, none⟩))), (4, (.pointer (some ⟨g2, 0, none⟩))), (5, (.pointer (some ⟨g5, 0, none⟩))), (6, (.pointer (some ⟨g6, 0, none⟩))), (7, (.int .i64 ((16 * k : Nat) : Int)))] (sc rfl (sc rfl (sc rfl (sc rfl (sc rfl (sc rfl sn)))))) ?_
 refine T_he [0, 1, 2, 3, 4] [.blk g6 65 ((dig 32 40 Ac).map b32), .blk g5 27 ((clampb key).map b8), .blk g2 27 ((List.replicate 16 0#8).map b8), .blk g1 22 (key.map b8), .rd A 1 n c (ts.map b8)] ⟨by decide, rfl⟩ ?_
 refine T_seq ?_
 refine Tsr hF rfl ?_
 refine lm rfl rfl rfl rfl rfl ?_
 refine lm rfl rfl rfl rfl rfl ?_
 refine lo rfl (pr_len_sl Try.underlying25 rfl rfl) rfl rfl ?_
 refine lo rfl (pr_cmp (bo := .lss) (nc_lt (a := 16 * k) (b := n)) rfl rfl rfl rfl) rfl rfl ?_
 refine L_nil ?_
 refine T_cond (decide (16 * k < n)) rfl (fun hc_7 => ?_) (fun hc_7 => ?_)
 ·
  have hc_7 := of_decide_eq_true hc_7
  refine T_skip ?_
  refine T_seq ?_
  refine T_block ?_
  refine Tsr hF rfl ?_
  refine lm rfl rfl rfl rfl rfl ?_
  refine lo rfl (pr_len_sl Try.underlying25 rfl rfl) rfl rfl ?_
  refine lm rfl rfl rfl rfl rfl ?_
  refine lo rfl (pr_sub (ns_i64 (a := n) (b := 16 * k) sd sd) rfl rfl rfl) rfl rfl ?_
  refine lo rfl ((pr_as (pr_min rfl rfl rfl) (nmin (k := .i64) (a := 16) (b := n - (16 * k))))) rfl rfl ?_
  refine la rfl rfl rfl rfl rfl ?_
  refine L_nil ?_
  obtain ⟨nb, hn_nb⟩ : ∃ x : Nat, min 16 (n - (16 * k)) = x := ⟨_, rfl⟩
  have hbl : (pblk ts k).length = nb := by rw [pblk_len ts k n hx]; exact hn_nb
  have hvl := vlt Ac (pblk ts k) hp.1 (pblk_len_le ts k)
  have hnb : nb ≤ 16 := by omega
  have hnb1 : 16 * k + nb ≤ n := by omega
  refine T_slot 8 (.int .i64 ((min 16 (n - (16 * k)) : Nat) : Int)) (.int .i64 ((nb : Nat) : Int)) rfl (by rw [hn_nb]) ?_
  refine T_seq ?_
  refine Tsr hF rfl ?_
  refine la rfl rfl rfl rfl rfl ?_
  refine L_nil ?_
  refine T_block ?_
  refine T_loop (T := Nat × List (BitVec 32)) (fun ⟨i, xs⟩ => i ≤ nb ∧ Ad Ac (pblk ts k) i xs) (fun ⟨i, xs⟩ => [(1, (.slice A n c)), (2, (.pointer (some ⟨g1, 0, none⟩))), (4, (.pointer (some ⟨g2, 0, none⟩))), (5, (.pointer (some ⟨g5, 0, none⟩))), (6, (.pointer (some ⟨g6, 0, none⟩))), (7, (.int .i64 ((16 * k : Nat) : Int))), (8, (.int .i64 ((nb : Nat) : Int))), (9, (.int .i64 ((i : Nat) : Int)))]) (fun ⟨i, xs⟩ => [.blk g6 65 (xs.map b32), .blk g5 27 ((clampb key).map b8), .blk g2 27 ((List.replicate 16 0#8).map b8), .blk g1 22 (key.map b8), .rd A 1 n c (ts.map b8)]) (fun ⟨i, xs⟩ => nb - i) (0, dig 32 40 Ac) (⟨by omega, ad_zero _ _ (lt40_of130 hp.1)⟩) (sc rfl (sc rfl (sc rfl (sc rfl (sc rfl (sc rfl (sc rfl (sc rfl sn)))))))) [0, 1, 2, 3, 4] ⟨by decide, rfl⟩ ?_
  rintro ⟨i, xs⟩ hp
  have hp : i ≤ nb ∧ Ad Ac (pblk ts k) i xs := hp
  have hxl := ad_len hp.2
  refine T_re [(1, (.slice A n c)), (2, (.pointer (some ⟨g1, 0, none⟩))), (4, (.pointer (some ⟨g2, 0, none⟩))), (5, (.pointer (some ⟨g5, 0, none⟩))), (6, (.pointer (some ⟨g6, 0, none⟩))), (7, (.int .i64 ((16 * k : Nat) : Int))), (8, (.int .i64 ((nb : Nat) : Int))), (9, (.int .i64 ((i : Nat) : Int)))] (sc rfl (sc rfl (sc rfl (sc rfl (sc rfl (sc rfl (sc rfl (sc rfl sn)))))))) ?_
  refine T_he [0, 1, 2, 3, 4] [.blk g6 65 (xs.map b32), .blk g5 27 ((clampb key).map b8), .blk g2 27 ((List.replicate 16 0#8).map b8), .blk g1 22 (key.map b8), .rd A 1 n c (ts.map b8)] ⟨by decide, rfl⟩ ?_
  refine T_seq ?_
  refine Tsr hF rfl ?_
  refine lm rfl rfl rfl rfl rfl ?_
  refine lm rfl rfl rfl rfl rfl ?_
  refine lo rfl (pr_cmp (bo := .lss) (nc_lt (a := i) (b := nb)) rfl rfl rfl rfl) rfl rfl ?_
  refine L_nil ?_
  refine T_cond (decide (i < nb)) rfl (fun hc_8 => ?_) (fun hc_8 => ?_)
  ·
   have hc_8 := of_decide_eq_true hc_8
   refine T_skip ?_
   refine T_seq ?_
   refine T_block ?_
   refine T_regD [.blk g6 65 (xs.map b32), .blk g5 27 ((clampb key).map b8), .blk g2 27 ((List.replicate 16 0#8).map b8), .blk g1 22 (key.map b8), .rd A 1 n c (ts.map b8)] 13 14 #[false, false, false, false, false, false, false, false, false, false, false, false, false, false] hF kr kr ?_
   refine D_pure (i := 0) [0, 1, 2, 3, 4] rfl kr rfl (pr_move rfl rfl) (.inr rfl) rfl rfl ?_
   refine D_pure (i := 1) [0, 1, 2, 3, 4] rfl kr rfl (pr_move rfl rfl) (.inr rfl) rfl rfl ?_
   refine D_pure (i := 2) [0, 1, 2, 3, 4] rfl kr rfl (pr_ixa (j := i) (m' := i) sd (by omega) Try.underlying65 (z := 1) kr rfl rfl rfl) (.inr rfl) rfl rfl ?_
   refine D_pure (i := 4) [0, 1, 2, 3, 4] rfl kr rfl (pr_move rfl rfl) (.inr rfl) rfl rfl ?_
   refine D_pure (i := 5) [0, 1, 2, 3, 4] rfl kr rfl (pr_move rfl rfl) (.inr rfl) rfl rfl ?_
   refine D_pure (i := 6) [0, 1, 2, 3, 4] rfl kr rfl (pr_move rfl rfl) (.inr rfl) rfl rfl ?_
   refine D_pure (i := 7) [0, 1, 2, 3, 4] rfl kr rfl (pr_add (na_i64 (a := 16 * k) (b := i) sd) rfl rfl rfl) (.inr rfl) rfl rfl ?_
   refine D_pure (i := 8) [0, 1, 2, 3, 4] rfl kr rfl (pr_ixs1 (j := 16 * k + i) (src_none (src_rd 4 rfl)) sd Try.underlying25 kr rfl rfl rfl) (.inr rfl) rfl rfl ?_
   refine D_take (i := 3) [0, 1, 2, 3, 4] rfl kr rfl (ld_blk 0 rfl (get32 sd) Try.underlying63 rfl rfl rfl) rfl rfl rfl ?_
   refine D_take (i := 9) [0, 1, 2, 3, 4] rfl kr rfl (ld_src (m := 16 * k + i) (src_rd 4 rfl) (get8 sd) Try.underlying5 rfl rfl rfl) rfl rfl rfl ?_
   refine D_pure (i := 10) [0, 1, 2, 3, 4] rfl kr rfl (pr_cv (cv8_32 _) Try.underlying5 Try.underlying63 rfl rfl) (.inr rfl) rfl rfl ?_
   refine D_pure (i := 11) [0, 1, 2, 3, 4] rfl kr rfl (pr_add (add32 _ _) rfl rfl rfl) (.inr rfl) rfl rfl ?_
   refine D_pure (i := 12) [0, 1, 2, 3, 4] rfl kr rfl (pr_ixa (j := i) (m' := i) sd (by omega) Try.underlying65 (z := 1) kr rfl rfl rfl) (.inr rfl) rfl rfl ?_
   refine D_one 13 _ rfl kr rfl (op_store (vs := [(b32 ((ath xs i) + ((ath ts (16 * k + i)).setWidth 32)))]) (cs' := ((List.set xs i ((ath xs i) + ((ath ts (16 * k + i)).setWidth 32))).map b32)) 0 rfl rfl kr (one_one rfl) (stl sd) (splice_map (f := b32) sd) rfl rfl rfl rfl ?_)
   refine D_past kr ?_
   refine D_done kr ?_
   refine T_reg hF rfl ?_
   refine lm rfl rfl rfl rfl rfl ?_
   refine lo rfl (pr_add (na_i64 (a := i) (b := 1) sd) rfl rfl rfl) rfl rfl ?_
   refine la rfl rfl rfl rfl rfl ?_
   refine L_nil ?_
   exact T_again (i + 1, (List.set xs i ((ath xs i) + ((ath ts (16 * k + i)).setWidth 32)))) (⟨by omega, ad_step hp.2 (by omega) (by omega) _ (pblk_at _ _ _ (by omega))⟩) (by first | trivial | ((try dsimp only); first | omega | (refine ⟨?_, ?_⟩ <;> omega) | (refine ⟨?_, ?_, ?_⟩ <;> omega) | (simp; done) | (simp; omega))) (sc rfl (sc rfl (sc rfl (sc rfl (sc rfl (sc rfl (sc rfl (sc rfl sn)))))))) [0, 1, 2, 3, 4] ⟨by decide, rfl⟩
  ·
   have hc_8 := of_decide_eq_false hc_8
   refine T_exit rfl ?_
   obtain rfl : nb = i := by omega
   have hadn := hp.2
   have hones := (ad_one hadn hbl (by omega)).1
   refine Tsr hF rfl ?_
   refine lm rfl rfl rfl rfl rfl ?_
   refine lm rfl rfl rfl rfl rfl ?_
   refine lo rfl (pr_ixa (j := nb) (m' := nb) sd (by omega) Try.underlying65 (z := 1) kr rfl rfl rfl) rfl rfl ?_
   refine lq rfl (ld_blk 0 rfl (get32 sd) Try.underlying63 rfl rfl rfl) rfl rfl ?_
   refine lo rfl (pr_add (add32 _ (1#32)) rfl rfl rfl) rfl rfl ?_
   refine lo rfl (pr_ixa (j := nb) (m' := nb) sd (by omega) Try.underlying65 (z := 1) kr rfl rfl rfl) rfl rfl ?_
   refine L_op rfl (op_store (vs := [(b32 ((ath xs nb) + 1#32))]) (cs' := ((List.set xs nb ((ath xs nb) + 1#32)).map b32)) 0 rfl rfl kr (one_one rfl) (stl sd) (splice_map (f := b32) sd) rfl rfl rfl rfl ?_)
   refine L_nil ?_
   refine Tsr hF rfl ?_
   refine lq rfl (ld_agg (ds := ((List.set xs nb ((ath xs nb) + 1#32)).map b32)) 0 rfl agg_all Try.underlying65 rfl (fwz (n := 40) kr sd) rfl rfl) rfl rfl ?_
   refine L_op rfl (op_cn (fun w hw => rcarry_f (List.set xs nb ((ath xs nb) + 1#32)) 512 w (hok_nil w) (ad_one (by assumption) hbl (by omega)).1 (ad_one (by assumption) hbl (by omega)).2.2 sd) (enters_of Try.func39 kr rfl) rfl rfl rfl rfl rfl (fun t9 q10 => ?_))
   refine T_slot 54 _ (.agg ((dig 32 40 (Ac + pv (pblk ts k))).map b32).toArray) rfl (by rw [(ad_one (by assumption) hbl (by omega)).2.1]) ?_
   refine L_op rfl (op_sto (n := 40) (vs := ((dig 32 40 (Ac + pv (pblk ts k))).map b32)) 0 rfl rfl kr (all32_one _) sd sd rfl rfl rfl rfl ?_)
   refine L_nil ?_
   refine Tsr hF rfl ?_
   refine L_op rfl (op_alloc (z := .agg ((List.replicate 40 0#32).map b32).toArray) (zs := ((List.replicate 40 0#32).map b32)) kr rfl rfl rfl rfl (fun g11 => ?_))
   refine L_nil ?_
   refine T_seq ?_
   refine Tsr hF rfl ?_
   refine la rfl rfl rfl rfl rfl ?_
   refine L_nil ?_
   refine T_block ?_
   refine T_loop (T := Nat × List (BitVec 32)) (fun ⟨i, zs⟩ => i ≤ 18 ∧ Mu (Ac + pv (pblk ts k)) (pr key) i 0 zs) (fun ⟨i, zs⟩ => [(1, (.slice A n c)), (2, (.pointer (some ⟨g1, 0, none⟩))), (4, (.pointer (some ⟨g2, 0, none⟩))), (5, (.pointer (some ⟨g5, 0, none⟩))), (6, (.pointer (some ⟨g6, 0, none⟩))), (7, (.int .i64 ((16 * k : Nat) : Int))), (10, (.pointer (some ⟨g11, 0, none⟩))), (11, (.int .i64 ((i : Nat) : Int)))]) (fun ⟨i, zs⟩ => [.blk g11 65 (zs.map b32), .blk g6 65 ((dig 32 40 (Ac + pv (pblk ts k))).map b32), .blk g5 27 ((clampb key).map b8), .blk g2 27 ((List.replicate 16 0#8).map b8), .blk g1 22 (key.map b8), .rd A 1 n c (ts.map b8)]) (fun ⟨i, zs⟩ => 18 - i) (0, List.replicate 40 0#32) (⟨by omega, mu_zero _ _⟩) (sc rfl (sc rfl (sc rfl (sc rfl (sc rfl (sc rfl (sc rfl (sc rfl sn)))))))) [0, 1, 2, 3, 4, 5] ⟨by decide, rfl⟩ ?_
   rintro ⟨i, zs⟩ hp
   have hp : i ≤ 18 ∧ Mu (Ac + pv (pblk ts k)) (pr key) i 0 zs := hp
   have hzl := mu_len hp.2
   have hd1 := hdl (Ac + pv (pblk ts k))
   refine T_re [(1, (.slice A n c)), (2, (.pointer (some ⟨g1, 0, none⟩))), (4, (.pointer (some ⟨g2, 0, none⟩))), (5, (.pointer (some ⟨g5, 0, none⟩))), (6, (.pointer (some ⟨g6, 0, none⟩))), (7, (.int .i64 ((16 * k : Nat) : Int))), (10, (.pointer (some ⟨g11, 0, none⟩))), (11, (.int .i64 ((i : Nat) : Int)))] (sc rfl (sc rfl (sc rfl (sc rfl (sc rfl (sc rfl (sc rfl (sc rfl sn)))))))) ?_
   refine T_he [0, 1, 2, 3, 4, 5] [.blk g11 65 (zs.map b32), .blk g6 65 ((dig 32 40 (Ac + pv (pblk ts k))).map b32), .blk g5 27 ((clampb key).map b8), .blk g2 27 ((List.replicate 16 0#8).map b8), .blk g1 22 (key.map b8), .rd A 1 n c (ts.map b8)] ⟨by decide, rfl⟩ ?_
   refine T_seq ?_
   refine Tsr hF rfl ?_
   refine lm rfl rfl rfl rfl rfl ?_
   refine lo rfl (pr_cmp (bo := .lss) (nc_lt (a := i) (b := 18)) rfl rfl rfl rfl) rfl rfl ?_
   refine L_nil ?_
   refine T_cond (decide (i < 18)) rfl (fun hc_12 => ?_) (fun hc_12 => ?_)
   ·
    have hc_12 := of_decide_eq_true hc_12
    refine T_skip ?_
    refine T_seq ?_
    refine T_block ?_
    refine Tsr hF rfl ?_
    refine la rfl rfl rfl rfl rfl ?_
    refine L_nil ?_
    refine T_block ?_
    refine T_loop (T := Nat × List (BitVec 32)) (fun ⟨j, ys⟩ => j ≤ 16 ∧ Mu (Ac + pv (pblk ts k)) (pr key) i j ys) (fun ⟨j, ys⟩ => [(1, (.slice A n c)), (2, (.pointer (some ⟨g1, 0, none⟩))), (4, (.pointer (some ⟨g2, 0, none⟩))), (5, (.pointer (some ⟨g5, 0, none⟩))), (6, (.pointer (some ⟨g6, 0, none⟩))), (7, (.int .i64 ((16 * k : Nat) : Int))), (10, (.pointer (some ⟨g11, 0, none⟩))), (11, (.int .i64 ((i : Nat) : Int))), (12, (.int .i64 ((j : Nat) : Int)))]) (fun ⟨j, ys⟩ => [.blk g11 65 (ys.map b32), .blk g6 65 ((dig 32 40 (Ac + pv (pblk ts k))).map b32), .blk g5 27 ((clampb key).map b8), .blk g2 27 ((List.replicate 16 0#8).map b8), .blk g1 22 (key.map b8), .rd A 1 n c (ts.map b8)]) (fun ⟨j, ys⟩ => 16 - j) (0, zs) (⟨by omega, hp.2⟩) (sc rfl (sc rfl (sc rfl (sc rfl (sc rfl (sc rfl (sc rfl (sc rfl (sc rfl sn))))))))) [0, 1, 2, 3, 4, 5] ⟨by decide, rfl⟩ ?_
    rintro ⟨j, ys⟩ hp
    have hp : j ≤ 16 ∧ Mu (Ac + pv (pblk ts k)) (pr key) i j ys := hp
    have hyl := mu_len hp.2
    refine T_re [(1, (.slice A n c)), (2, (.pointer (some ⟨g1, 0, none⟩))), (4, (.pointer (some ⟨g2, 0, none⟩))), (5, (.pointer (some ⟨g5, 0, none⟩))), (6, (.pointer (some ⟨g6, 0, none⟩))), (7, (.int .i64 ((16 * k : Nat) : Int))), (10, (.pointer (some ⟨g11, 0, none⟩))), (11, (.int .i64 ((i : Nat) : Int))), (12, (.int .i64 ((j : Nat) : Int)))] (sc rfl (sc rfl (sc rfl (sc rfl (sc rfl (sc rfl (sc rfl (sc rfl (sc rfl sn))))))))) ?_
    refine T_he [0, 1, 2, 3, 4, 5] [.blk g11 65 (ys.map b32), .blk g6 65 ((dig 32 40 (Ac + pv (pblk ts k))).map b32), .blk g5 27 ((clampb key).map b8), .blk g2 27 ((List.replicate 16 0#8).map b8), .blk g1 22 (key.map b8), .rd A 1 n c (ts.map b8)] ⟨by decide, rfl⟩ ?_
    refine T_seq ?_
    refine Tsr hF rfl ?_
    refine lm rfl rfl rfl rfl rfl ?_
    refine lo rfl (pr_cmp (bo := .lss) (nc_lt (a := j) (b := 16)) rfl rfl rfl rfl) rfl rfl ?_
    refine L_nil ?_
    refine T_cond (decide (j < 16)) rfl (fun hc_13 => ?_) (fun hc_13 => ?_)
    ·
     have hc_13 := of_decide_eq_true hc_13
     refine T_skip ?_
     refine T_seq ?_
     refine T_block ?_
     refine T_regD [.blk g11 65 (ys.map b32), .blk g6 65 ((dig 32 40 (Ac + pv (pblk ts k))).map b32), .blk g5 27 ((clampb key).map b8), .blk g2 27 ((List.replicate 16 0#8).map b8), .blk g1 22 (key.map b8), .rd A 1 n c (ts.map b8)] 18 19 #[false, false, false, false, false, false, false, false, false, false, false, false, false, false, false, false, false, false, false] hF kr kr ?_
     refine D_pure (i := 0) [0, 1, 2, 3, 4, 5] rfl kr rfl (pr_move rfl rfl) (.inr rfl) rfl rfl ?_
     refine D_pure (i := 1) [0, 1, 2, 3, 4, 5] rfl kr rfl (pr_move rfl rfl) (.inr rfl) rfl rfl ?_
     refine D_pure (i := 2) [0, 1, 2, 3, 4, 5] rfl kr rfl (pr_add (na_i64 (a := i) (b := j) sd) rfl rfl rfl) (.inr rfl) rfl rfl ?_
     refine D_pure (i := 3) [0, 1, 2, 3, 4, 5] rfl kr rfl (pr_move rfl rfl) (.inr rfl) rfl rfl ?_
     refine D_pure (i := 4) [0, 1, 2, 3, 4, 5] rfl kr rfl (pr_move rfl rfl) (.inr rfl) rfl rfl ?_
     refine D_pure (i := 5) [0, 1, 2, 3, 4, 5] rfl kr rfl (pr_add (na_i64 (a := i) (b := j) sd) rfl rfl rfl) (.inr rfl) rfl rfl ?_
     refine D_pure (i := 6) [0, 1, 2, 3, 4, 5] rfl kr rfl (pr_ixa (j := i + j) (m' := i + j) sd (by omega) Try.underlying65 (z := 1) kr rfl rfl rfl) (.inr rfl) rfl rfl ?_
     refine D_pure (i := 8) [0, 1, 2, 3, 4, 5] rfl kr rfl (pr_move rfl rfl) (.inr rfl) rfl rfl ?_
     refine D_pure (i := 9) [0, 1, 2, 3, 4, 5] rfl kr rfl (pr_ixa (j := i) (m' := i) sd (by omega) Try.underlying65 (z := 1) kr rfl rfl rfl) (.inr rfl) rfl rfl ?_
     refine D_pure (i := 11) [0, 1, 2, 3, 4, 5] rfl kr rfl (pr_move rfl rfl) (.inr rfl) rfl rfl ?_
     refine D_pure (i := 12) [0, 1, 2, 3, 4, 5] rfl kr rfl (pr_ixa (j := j) (m' := j) sd (by omega) Try.underlying27 (z := 1) kr rfl rfl rfl) (.inr rfl) rfl rfl ?_
     refine D_take (i := 7) [0, 1, 2, 3, 4, 5] rfl kr rfl (ld_blk 0 rfl (get32 sd) Try.underlying63 rfl rfl rfl) rfl rfl rfl ?_
     refine D_take (i := 10) [0, 1, 2, 3, 4, 5] rfl kr rfl (ld_blk 1 rfl (get32 sd) Try.underlying63 rfl rfl rfl) rfl rfl rfl ?_
     refine D_take (i := 13) [0, 1, 2, 3, 4, 5] rfl kr rfl (ld_blk 2 rfl (get8 sd) Try.underlying5 rfl rfl rfl) rfl rfl rfl ?_
     refine D_pure (i := 14) [0, 1, 2, 3, 4, 5] rfl kr rfl (pr_cv (cv8_32 _) Try.underlying5 Try.underlying63 rfl rfl) (.inr rfl) rfl rfl ?_
     refine D_pure (i := 15) [0, 1, 2, 3, 4, 5] rfl kr rfl (pr_mul (mul32 _ _) rfl rfl rfl) (.inr rfl) rfl rfl ?_
     refine D_pure (i := 16) [0, 1, 2, 3, 4, 5] rfl kr rfl (pr_add (add32 _ _) rfl rfl rfl) (.inr rfl) rfl rfl ?_
     refine D_pure (i := 17) [0, 1, 2, 3, 4, 5] rfl kr rfl (pr_ixa (j := i + j) (m' := i + j) sd (by omega) Try.underlying65 (z := 1) kr rfl rfl rfl) (.inr rfl) rfl rfl ?_
     refine D_one 18 _ rfl kr rfl (op_store (vs := [(b32 ((ath ys (i + j)) + ((ath (dig 32 40 (Ac + pv (pblk ts k))) i) * ((ath (clampb key) j).setWidth 32))))]) (cs' := ((List.set ys (i + j) ((ath ys (i + j)) + ((ath (dig 32 40 (Ac + pv (pblk ts k))) i) * ((ath (clampb key) j).setWidth 32)))).map b32)) 0 rfl rfl kr (one_one rfl) (stl sd) (splice_map (f := b32) sd) rfl rfl rfl rfl ?_)
     refine D_past kr ?_
     refine D_done kr ?_
     refine T_reg hF rfl ?_
     refine lm rfl rfl rfl rfl rfl ?_
     refine lo rfl (pr_add (na_i64 (a := j) (b := 1) sd) rfl rfl rfl) rfl rfl ?_
     refine la rfl rfl rfl rfl rfl ?_
     refine L_nil ?_
     exact T_again (j + 1, (List.set ys (i + j) ((ath ys (i + j)) + ((ath (dig 32 40 (Ac + pv (pblk ts k))) i) * ((ath (clampb key) j).setWidth 32))))) (⟨by omega, mu_step hp.2 (by omega) (by omega) (by omega) _ _ (dig_at_nat 32 40 _ i (by omega) (by omega)) (by rw [BitVec.toNat_setWidth, clampb_dig key j (by omega)]; omega)⟩) (by first | trivial | ((try dsimp only); first | omega | (refine ⟨?_, ?_⟩ <;> omega) | (refine ⟨?_, ?_, ?_⟩ <;> omega) | (simp; done) | (simp; omega))) (sc rfl (sc rfl (sc rfl (sc rfl (sc rfl (sc rfl (sc rfl (sc rfl (sc rfl sn))))))))) [0, 1, 2, 3, 4, 5] ⟨by decide, rfl⟩
    ·
     have hc_13 := of_decide_eq_false hc_13
     refine T_exit rfl ?_
     obtain rfl : 16 = j := by omega
     refine T_reg hF rfl ?_
     refine lm rfl rfl rfl rfl rfl ?_
     refine lo rfl (pr_add (na_i64 (a := i) (b := 1) sd) rfl rfl rfl) rfl rfl ?_
     refine la rfl rfl rfl rfl rfl ?_
     refine L_nil ?_
     exact T_again (i + 1, ys) (⟨by omega, mu_row hp.2 (pr_lt16 key)⟩) (by first | trivial | ((try dsimp only); first | omega | (refine ⟨?_, ?_⟩ <;> omega) | (refine ⟨?_, ?_, ?_⟩ <;> omega) | (simp; done) | (simp; omega))) (sc rfl (sc rfl (sc rfl (sc rfl (sc rfl (sc rfl (sc rfl (sc rfl sn)))))))) [0, 1, 2, 3, 4, 5] ⟨by decide, rfl⟩
   ·
    have hc_12 := of_decide_eq_false hc_12
    refine T_exit rfl ?_
    obtain rfl : 18 = i := by omega
    refine T_reg hF rfl ?_
    refine lq rfl (ld_agg (ds := (zs.map b32)) 0 rfl agg_all Try.underlying65 rfl (fwz (n := 40) kr sd) rfl rfl) rfl rfl ?_
    refine L_op rfl (op_cn (fun w hw => rcarry_f zs 30000000 w (hok_nil w) (mu_len hp.2) (mu_all hp.2 rfl hvl.2.1).2 sd) (enters_of Try.func39 kr rfl) rfl rfl rfl rfl rfl (fun t14 q15 => ?_))
    refine T_slot 82 (.agg ((dig 32 40 (vw zs)).map b32).toArray) (.agg ((dig 32 40 ((Ac + pv (pblk ts k)) * pr key)).map b32).toArray) rfl (by rw [(mu_all hp.2 rfl hvl.2.1).1]) ?_
    refine L_op rfl (op_cn (fun w hw => rreduce_f ((Ac + pv (pblk ts k)) * pr key) w (hok_nil w) (mult_lt _ _ hvl.1 (pr_lt key))) (enters_of Try.func40 kr rfl) rfl rfl rfl rfl rfl (fun t16 q17 => ?_))
    refine L_op rfl (op_sto (n := 40) (vs := ((dig 32 40 (redk ((Ac + pv (pblk ts k)) * pr key) 4)).map b32)) 1 rfl rfl kr (all32_one _) sd sd rfl rfl rfl rfl ?_)
    refine L_nil ?_
    refine T_reg hF rfl ?_
    refine lm rfl rfl rfl rfl rfl ?_
    refine lo rfl (pr_add (na_i64 (a := 16 * k) (b := 16) sd) rfl rfl rfl) rfl rfl ?_
    refine la rfl rfl rfl rfl rfl ?_
    refine L_nil ?_
    refine T_slot 7 (.int .i64 ((16 * k + 16 : Nat) : Int)) (.int .i64 ((16 * (k + 1) : Nat) : Int)) rfl (by congr 1) ?_
    exact T_again (k + 1, redk ((Ac + pv (pblk ts k)) * pr key) 4) (⟨(ref_piece _ _ _ rfl hvl.1 (pr_lt key)).1, ((ref_piece _ _ _ rfl hvl.1 (pr_lt key)).2).trans (pacc_next _ _ _ _ _ hp0.2.1 rfl), by omega⟩) (by dsimp only; omega) (sc rfl (sc rfl (sc rfl (sc rfl (sc rfl (sc rfl sn)))))) [0, 2, 3, 4, 5] ⟨by decide, rfl⟩
 ·
  have hc_7 := of_decide_eq_false hc_7
  refine T_exit rfl ?_
  refine Tsr hF rfl ?_
  refine lq rfl (ld_agg (ds := ((dig 32 40 Ac).map b32)) 0 rfl agg_all Try.underlying65 rfl (fwz (n := 40) kr sd) rfl rfl) rfl rfl ?_
  refine L_op rfl (op_cn (fun w hw => rleast_f Ac w (hok_nil w) hp.1) (enters_of Try.func41 kr rfl) rfl rfl rfl rfl rfl (fun t18 q19 => ?_))
  refine L_op rfl (op_sto (n := 40) (vs := ((dig 32 40 (Ac % polyP)).map b32)) 0 rfl rfl kr (all32_one _) sd sd rfl rfl rfl rfl ?_)
  refine L_nil ?_
  refine T_seq ?_
  refine Tsr hF rfl ?_
  refine la rfl rfl rfl rfl rfl ?_
  refine L_nil ?_
  refine T_block ?_
  refine T_loop (T := Nat × List (BitVec 32)) (fun ⟨i, us⟩ => i ≤ 16 ∧ Ad (Ac % polyP) (List.take 16 (List.drop 16 key)) i us) (fun ⟨i, us⟩ => [(2, (.pointer (some ⟨g1, 0, none⟩))), (4, (.pointer (some ⟨g2, 0, none⟩))), (6, (.pointer (some ⟨g6, 0, none⟩))), (13, (.int .i64 ((i : Nat) : Int)))]) (fun ⟨i, us⟩ => [.blk g6 65 (us.map b32), .blk g5 27 ((clampb key).map b8), .blk g2 27 ((List.replicate 16 0#8).map b8), .blk g1 22 (key.map b8), .rd A 1 n c (ts.map b8)]) (fun ⟨i, us⟩ => 16 - i) (0, dig 32 40 (Ac % polyP)) (⟨by omega, ad_zero _ _ (modP_lt _)⟩) (sc rfl (sc rfl (sc rfl (sc rfl sn)))) [0, 1, 2, 3, 4] ⟨by decide, rfl⟩ ?_
  rintro ⟨i, us⟩ hp
  have hp : i ≤ 16 ∧ Ad (Ac % polyP) (List.take 16 (List.drop 16 key)) i us := hp
  have hul := ad_len hp.2
  refine T_re [(2, (.pointer (some ⟨g1, 0, none⟩))), (4, (.pointer (some ⟨g2, 0, none⟩))), (6, (.pointer (some ⟨g6, 0, none⟩))), (13, (.int .i64 ((i : Nat) : Int)))] (sc rfl (sc rfl (sc rfl (sc rfl sn)))) ?_
  refine T_he [0, 1, 2, 3, 4] [.blk g6 65 (us.map b32), .blk g5 27 ((clampb key).map b8), .blk g2 27 ((List.replicate 16 0#8).map b8), .blk g1 22 (key.map b8), .rd A 1 n c (ts.map b8)] ⟨by decide, rfl⟩ ?_
  refine T_seq ?_
  refine Tsr hF rfl ?_
  refine lm rfl rfl rfl rfl rfl ?_
  refine lo rfl (pr_cmp (bo := .lss) (nc_lt (a := i) (b := 16)) rfl rfl rfl rfl) rfl rfl ?_
  refine L_nil ?_
  refine T_cond (decide (i < 16)) rfl (fun hc_20 => ?_) (fun hc_20 => ?_)
  ·
   have hc_20 := of_decide_eq_true hc_20
   refine T_skip ?_
   refine T_seq ?_
   refine T_block ?_
   refine T_regD [.blk g6 65 (us.map b32), .blk g5 27 ((clampb key).map b8), .blk g2 27 ((List.replicate 16 0#8).map b8), .blk g1 22 (key.map b8), .rd A 1 n c (ts.map b8)] 11 12 #[false, false, false, false, false, false, false, false, false, false, false, false] hF kr kr ?_
   refine D_pure (i := 0) [0, 1, 2, 3, 4] rfl kr rfl (pr_move rfl rfl) (.inr rfl) rfl rfl ?_
   refine D_pure (i := 1) [0, 1, 2, 3, 4] rfl kr rfl (pr_move rfl rfl) (.inr rfl) rfl rfl ?_
   refine D_pure (i := 2) [0, 1, 2, 3, 4] rfl kr rfl (pr_ixa (j := i) (m' := i) sd (by omega) Try.underlying65 (z := 1) kr rfl rfl rfl) (.inr rfl) rfl rfl ?_
   refine D_pure (i := 4) [0, 1, 2, 3, 4] rfl kr rfl (pr_move rfl rfl) (.inr rfl) rfl rfl ?_
   refine D_pure (i := 5) [0, 1, 2, 3, 4] rfl kr rfl (pr_add (na_i64 (a := 16) (b := i) sd) rfl rfl rfl) (.inr rfl) rfl rfl ?_
   refine D_pure (i := 6) [0, 1, 2, 3, 4] rfl kr rfl (pr_ixa (j := 16 + i) (m' := 16 + i) sd (by omega) Try.underlying22 (z := 1) kr rfl rfl rfl) (.inr rfl) rfl rfl ?_
   refine D_take (i := 3) [0, 1, 2, 3, 4] rfl kr rfl (ld_blk 0 rfl (get32 sd) Try.underlying63 rfl rfl rfl) rfl rfl rfl ?_
   refine D_take (i := 7) [0, 1, 2, 3, 4] rfl kr rfl (ld_blk 3 rfl (get8 sd) Try.underlying5 rfl rfl rfl) rfl rfl rfl ?_
   refine D_pure (i := 8) [0, 1, 2, 3, 4] rfl kr rfl (pr_cv (cv8_32 _) Try.underlying5 Try.underlying63 rfl rfl) (.inr rfl) rfl rfl ?_
   refine D_pure (i := 9) [0, 1, 2, 3, 4] rfl kr rfl (pr_add (add32 _ _) rfl rfl rfl) (.inr rfl) rfl rfl ?_
   refine D_pure (i := 10) [0, 1, 2, 3, 4] rfl kr rfl (pr_ixa (j := i) (m' := i) sd (by omega) Try.underlying65 (z := 1) kr rfl rfl rfl) (.inr rfl) rfl rfl ?_
   refine D_one 11 _ rfl kr rfl (op_store (vs := [(b32 ((ath us i) + ((ath key (16 + i)).setWidth 32)))]) (cs' := ((List.set us i ((ath us i) + ((ath key (16 + i)).setWidth 32))).map b32)) 0 rfl rfl kr (one_one rfl) (stl sd) (splice_map (f := b32) sd) rfl rfl rfl rfl ?_)
   refine D_past kr ?_
   refine D_done kr ?_
   refine T_reg hF rfl ?_
   refine lm rfl rfl rfl rfl rfl ?_
   refine lo rfl (pr_add (na_i64 (a := i) (b := 1) sd) rfl rfl rfl) rfl rfl ?_
   refine la rfl rfl rfl rfl rfl ?_
   refine L_nil ?_
   exact T_again (i + 1, (List.set us i ((ath us i) + ((ath key (16 + i)).setWidth 32)))) (⟨by omega, ad_step hp.2 (by omega) (by omega) _ (key_at _ _ (by omega))⟩) (by first | trivial | ((try dsimp only); first | omega | (refine ⟨?_, ?_⟩ <;> omega) | (refine ⟨?_, ?_, ?_⟩ <;> omega) | (simp; done) | (simp; omega))) (sc rfl (sc rfl (sc rfl (sc rfl sn)))) [0, 1, 2, 3, 4] ⟨by decide, rfl⟩
  ·
   have hc_20 := of_decide_eq_false hc_20
   refine T_exit rfl ?_
   obtain rfl : 16 = i := by omega
   refine Tsr hF rfl ?_
   refine lq rfl (ld_agg (ds := (us.map b32)) 0 rfl agg_all Try.underlying65 rfl (fwz (n := 40) kr sd) rfl rfl) rfl rfl ?_
   refine L_op rfl (op_cn (fun w hw => rcarry_f us 512 w (hok_nil w) (ad_len hp.2) (ad_all hp.2 (by omega)).2 sd) (enters_of Try.func39 kr rfl) rfl rfl rfl rfl rfl (fun t21 q22 => ?_))
   refine T_slot 102 (.agg ((dig 32 40 (vw us)).map b32).toArray) (.agg ((dig 32 40 ((Ac % polyP) + ps key)).map b32).toArray) rfl (by rw [(ad_all hp.2 (by omega)).1]; unfold ps; rfl) ?_
   refine L_op rfl (op_sto (n := 40) (vs := ((dig 32 40 ((Ac % polyP) + ps key)).map b32)) 0 rfl rfl kr (all32_one _) sd sd rfl rfl rfl rfl ?_)
   refine L_nil ?_
   refine Tsr hF rfl ?_
   refine L_op rfl (op_alloc (z := .agg ((List.replicate 16 0#8).map b8).toArray) (zs := ((List.replicate 16 0#8).map b8)) kr rfl rfl rfl rfl (fun g23 => ?_))
   refine L_nil ?_
   refine T_seq ?_
   refine Tsr hF rfl ?_
   refine la rfl rfl rfl rfl rfl ?_
   refine L_nil ?_
   refine T_block ?_
   refine T_as 0 _ (.blk g23 27 ((prez (dig 8 16 (Ac % polyP + ps key)) 16 0).map b8)) rfl (by rw [← prez_zero]) ?_
   refine T_loop (T := Nat) (fun i => i ≤ 16) (fun i => [(4, (.pointer (some ⟨g2, 0, none⟩))), (6, (.pointer (some ⟨g6, 0, none⟩))), (14, (.pointer (some ⟨g23, 0, none⟩))), (15, (.int .i64 ((i : Nat) : Int)))]) (fun i => [.blk g23 27 ((prez (dig 8 16 (Ac % polyP + ps key)) 16 i).map b8), .blk g6 65 ((dig 32 40 ((Ac % polyP) + ps key)).map b32), .blk g5 27 ((clampb key).map b8), .blk g2 27 ((List.replicate 16 0#8).map b8), .blk g1 22 (key.map b8), .rd A 1 n c (ts.map b8)]) (fun i => 16 - i) 0 (by first | trivial | ((try dsimp only); first | omega | (refine ⟨?_, ?_⟩ <;> omega) | (refine ⟨?_, ?_, ?_⟩ <;> omega) | (simp; done) | (simp; omega))) (sc rfl (sc rfl (sc rfl (sc rfl sn)))) [0, 1, 2, 3, 4, 5] ⟨by decide, rfl⟩ ?_
   rintro i hp
   have hp : i ≤ 16 := hp
   have hpz := prez_len (dig 8 16 (Ac % polyP + ps key)) 16 i (dig_len _ _ _) hp
   have hd2 := hdl ((Ac % polyP) + ps key)
   refine T_re [(4, (.pointer (some ⟨g2, 0, none⟩))), (6, (.pointer (some ⟨g6, 0, none⟩))), (14, (.pointer (some ⟨g23, 0, none⟩))), (15, (.int .i64 ((i : Nat) : Int)))] (sc rfl (sc rfl (sc rfl (sc rfl sn)))) ?_
   refine T_he [0, 1, 2, 3, 4, 5] [.blk g23 27 ((prez (dig 8 16 (Ac % polyP + ps key)) 16 i).map b8), .blk g6 65 ((dig 32 40 ((Ac % polyP) + ps key)).map b32), .blk g5 27 ((clampb key).map b8), .blk g2 27 ((List.replicate 16 0#8).map b8), .blk g1 22 (key.map b8), .rd A 1 n c (ts.map b8)] ⟨by decide, rfl⟩ ?_
   refine T_seq ?_
   refine Tsr hF rfl ?_
   refine lm rfl rfl rfl rfl rfl ?_
   refine lo rfl (pr_cmp (bo := .lss) (nc_lt (a := i) (b := 16)) rfl rfl rfl rfl) rfl rfl ?_
   refine L_nil ?_
   refine T_cond (decide (i < 16)) rfl (fun hc_24 => ?_) (fun hc_24 => ?_)
   ·
    have hc_24 := of_decide_eq_true hc_24
    refine T_skip ?_
    refine T_seq ?_
    refine T_block ?_
    refine T_reg hF rfl ?_
    refine lm rfl rfl rfl rfl rfl ?_
    refine lm rfl rfl rfl rfl rfl ?_
    refine lo rfl (pr_ixa (j := i) (m' := i) sd (by omega) Try.underlying65 (z := 1) kr rfl rfl rfl) rfl rfl ?_
    refine lq rfl (ld_blk 1 rfl (get32 sd) Try.underlying63 rfl rfl rfl) rfl rfl ?_
    refine lo rfl (pr_cv (cv32_8 _) Try.underlying63 Try.underlying5 rfl rfl) rfl rfl ?_
    refine lo rfl (pr_ixa (j := i) (m' := i) sd (by omega) Try.underlying27 (z := 1) kr rfl rfl rfl) rfl rfl ?_
    refine L_op rfl (op_store (vs := [(b8 ((ath (dig 32 40 ((Ac % polyP) + ps key)) i).setWidth 8))]) (cs' := ((List.set (prez (dig 8 16 (Ac % polyP + ps key)) 16 i) i ((ath (dig 32 40 ((Ac % polyP) + ps key)) i).setWidth 8)).map b8)) 0 rfl rfl kr (one_one rfl) (stl sd) (splice_map (f := b8) sd) rfl rfl rfl rfl ?_)
    refine L_nil ?_
    refine T_reg hF rfl ?_
    refine lm rfl rfl rfl rfl rfl ?_
    refine lo rfl (pr_add (na_i64 (a := i) (b := 1) sd) rfl rfl rfl) rfl rfl ?_
    refine la rfl rfl rfl rfl rfl ?_
    refine L_nil ?_
    refine T_as 0 _ (.blk g23 27 ((prez (dig 8 16 (Ac % polyP + ps key)) 16 (i + 1)).map b8)) rfl (by rw [prez_set (dig 8 16 (Ac % polyP + ps key)) 16 i (dig_len _ _ _) (by omega) _ (dig_byte _ _ (by omega))]) ?_
    exact T_again (i + 1) (by first | trivial | ((try dsimp only); first | omega | (refine ⟨?_, ?_⟩ <;> omega) | (refine ⟨?_, ?_, ?_⟩ <;> omega) | (simp; done) | (simp; omega))) (by first | trivial | ((try dsimp only); first | omega | (refine ⟨?_, ?_⟩ <;> omega) | (refine ⟨?_, ?_, ?_⟩ <;> omega) | (simp; done) | (simp; omega))) (sc rfl (sc rfl (sc rfl (sc rfl sn)))) [0, 1, 2, 3, 4, 5] ⟨by decide, rfl⟩
   ·
    have hc_24 := of_decide_eq_false hc_24
    refine T_exit rfl ?_
    obtain rfl : 16 = i := by omega
    refine Tsr hF rfl ?_
    refine lq rfl (ld_agg (ds := ((prez (dig 8 16 (Ac % polyP + ps key)) 16 16).map b8)) 0 rfl agg_all Try.underlying27 rfl (fwz (n := 16) kr sd) rfl rfl) rfl rfl ?_
    refine L_op rfl (op_sto (n := 16) (vs := ((prez (dig 8 16 (Ac % polyP + ps key)) 16 16).map b8)) 3 rfl rfl kr (all8_one _) kr sd rfl rfl rfl rfl ?_)
    refine L_nil ?_
    refine T_ret ?_
    refine T_as 0 _ (.blk g2 27 ((ptag key ts).map b8)) rfl (by rw [prez_all _ _ (dig_len _ _ _), pacc_end key ts Ac k n hx hp0.2.1 (by omega) (by omega)]) ?_
    exact T_fin () (by first | trivial | omega | (simp; done)) (resb 0 rfl rfl rfl Try.underlying27 rfl (fwz (n := 16) kr sd)) [] ⟨by decide, rfl⟩ rfl
end Go.Proofs.Ytemjinkdfjoicaa
