/- What package poly answers, by facts. Conditions: parts together below 10^8 bytes. -/
import Derived.Test.YtemjinkdfjoicaaGCat
import Derived.Test.YtemjinkdfjoicaaPolyT
import Derived.Test.YtemjinkdfjoicaaProg
import Derived.Test.YtemjinkdfjoicaaFwU
namespace Go.Proofs.Ytemjinkdfjoicaa
set_option linter.unusedVariables false
set_option linter.unusedSimpArgs false
set_option linter.unnecessarySimpa false
open Go.RowKit Bv Fw

theorem add64_at (x y c : BitVec 64) (hc : c.toNat ≤ 1) : ∃ s d : BitVec 64, s.toNat + 18446744073709551616 * d.toNat = x.toNat + y.toNat + c.toNat ∧ d.toNat ≤ 1 ∧ ∀ w, (callFunc 50 [b64 x, b64 y, b64 c].toArray).run Try.prog w = .ok (.value (.tuple [b64 s, b64 d].toArray)) w :=
  add64_ext Try.func50 (by kernel_rfl) (by kernel_rfl) (by kernel_rfl) (by kernel_rfl) x y c hc
theorem mul64_ex (x y : BitVec 64) : ∃ h l : BitVec 64, 18446744073709551616 * h.toNat + l.toNat = x.toNat * y.toNat ∧ h = (x >>> 32) * (y >>> 32) + (((x >>> 32) * (y &&& 4294967295#64) + (((x &&& 4294967295#64) * (y &&& 4294967295#64)) >>> 32)) >>> 32) + (((((x >>> 32) * (y &&& 4294967295#64) + (((x &&& 4294967295#64) * (y &&& 4294967295#64)) >>> 32)) &&& 4294967295#64) + (x &&& 4294967295#64) * (y >>> 32)) >>> 32) ∧ l = x * y :=
  ⟨_, _, mul64_law x y, rfl, rfl⟩

set_option maxHeartbeats 4000000 in
theorem mul64_f (x : BitVec 64) (y : BitVec 64) (w : World) (hO : HOK [] w)  : Calls Try.prog 51 [(b64 x), (b64 y)].toArray w (Ret (T := BitVec 64 × BitVec 64) [] w (fun ⟨h, l⟩ => 18446744073709551616 * h.toNat + l.toNat = x.toNat * y.toNat) (fun ⟨h, l⟩ => (.tuple [(b64 h), (b64 l)].toArray)) (fun ⟨h, l⟩ => [])) := by
 obtain ⟨h, l, hhl, hh, hl⟩ := mul64_ex x y
 have hF : Wid Fence.wide := wid_wide
 refine enter (c := _) Try.func51 rfl [] [(b64 x), (b64 y)] [] (by rw [Try.ntmps51]; rfl) (own_rds hO rfl) ?_
 rw [Try.ntmps51]
 refine T_re [(0, (b64 x)), (1, (b64 y))] (sc rfl (sc rfl sn)) ?_
 refine T_he [] [] ⟨by decide, rfl⟩ ?_
 refine Tsr hF rfl ?_
 refine la rfl rfl rfl rfl rfl ?_
 refine la rfl rfl rfl rfl rfl ?_
 refine L_nil ?_
 refine Tsr hF rfl ?_
 refine lm rfl rfl rfl rfl rfl ?_
 refine lo rfl (pr_and (ib_and64 _ (4294967295#64)) rfl rfl rfl) rfl rfl ?_
 refine la rfl rfl rfl rfl rfl ?_
 refine L_nil ?_
 refine Tsr hF rfl ?_
 refine lm rfl rfl rfl rfl rfl ?_
 refine lo rfl (pr_shift (sh_shr64 x _ 32) rfl rfl rfl rfl) rfl rfl ?_
 refine la rfl rfl rfl rfl rfl ?_
 refine L_nil ?_
 refine Tsr hF rfl ?_
 refine lm rfl rfl rfl rfl rfl ?_
 refine lo rfl (pr_and (ib_and64 _ (4294967295#64)) rfl rfl rfl) rfl rfl ?_
 refine la rfl rfl rfl rfl rfl ?_
 refine L_nil ?_
 refine Tsr hF rfl ?_
 refine lm rfl rfl rfl rfl rfl ?_
 refine lo rfl (pr_shift (sh_shr64 y _ 32) rfl rfl rfl rfl) rfl rfl ?_
 refine la rfl rfl rfl rfl rfl ?_
 refine L_nil ?_
 refine Tsr hF rfl ?_
 refine lm rfl rfl rfl rfl rfl ?_
 refine lm rfl rfl rfl rfl rfl ?_
 refine lo rfl (pr_mul (mul64 _ _) rfl rfl rfl) rfl rfl ?_
 refine la rfl rfl rfl rfl rfl ?_
 refine L_nil ?_
 refine Tsr hF rfl ?_
 refine lm rfl rfl rfl rfl rfl ?_
 refine lm rfl rfl rfl rfl rfl ?_
 refine lo rfl (pr_mul (mul64 _ _) rfl rfl rfl) rfl rfl ?_
 refine lm rfl rfl rfl rfl rfl ?_
 refine lo rfl (pr_shift (sh_shr64 ((x &&& 4294967295#64) * (y &&& 4294967295#64)) _ 32) rfl rfl rfl rfl) rfl rfl ?_
 refine lo rfl (pr_add (add64 _ _) rfl rfl rfl) rfl rfl ?_
 refine la rfl rfl rfl rfl rfl ?_
 refine L_nil ?_
 refine Tsr hF rfl ?_
 refine lm rfl rfl rfl rfl rfl ?_
 refine lo rfl (pr_and (ib_and64 _ (4294967295#64)) rfl rfl rfl) rfl rfl ?_
 refine la rfl rfl rfl rfl rfl ?_
 refine L_nil ?_
 refine Tsr hF rfl ?_
 refine lm rfl rfl rfl rfl rfl ?_
 refine lo rfl (pr_shift (sh_shr64 (((x >>> 32) * (y &&& 4294967295#64)) + (((x &&& 4294967295#64) * (y &&& 4294967295#64)) >>> 32)) _ 32) rfl rfl rfl rfl) rfl rfl ?_
 refine la rfl rfl rfl rfl rfl ?_
 refine L_nil ?_
 refine Tsr hF rfl ?_
 refine lm rfl rfl rfl rfl rfl ?_
 refine lm rfl rfl rfl rfl rfl ?_
 refine lm rfl rfl rfl rfl rfl ?_
 refine lo rfl (pr_mul (mul64 _ _) rfl rfl rfl) rfl rfl ?_
 refine lo rfl (pr_add (add64 _ _) rfl rfl rfl) rfl rfl ?_
 refine la rfl rfl rfl rfl rfl ?_
 refine L_nil ?_
 refine Tsr hF rfl ?_
 refine lm rfl rfl rfl rfl rfl ?_
 refine lm rfl rfl rfl rfl rfl ?_
 refine lo rfl (pr_mul (mul64 _ _) rfl rfl rfl) rfl rfl ?_
 refine lm rfl rfl rfl rfl rfl ?_
 refine lo rfl (pr_add (add64 _ _) rfl rfl rfl) rfl rfl ?_
 refine lm rfl rfl rfl rfl rfl ?_
 refine lo rfl (pr_shift (sh_shr64 (((((x >>> 32) * (y &&& 4294967295#64)) + (((x &&& 4294967295#64) * (y &&& 4294967295#64)) >>> 32)) &&& 4294967295#64) + ((x &&& 4294967295#64) * (y >>> 32))) _ 32) rfl rfl rfl rfl) rfl rfl ?_
 refine lo rfl (pr_add (add64 _ _) rfl rfl rfl) rfl rfl ?_
 refine la rfl rfl rfl rfl rfl ?_
 refine L_nil ?_
 refine Tsr hF rfl ?_
 refine lm rfl rfl rfl rfl rfl ?_
 refine lm rfl rfl rfl rfl rfl ?_
 refine lo rfl (pr_mul (mul64 _ _) rfl rfl rfl) rfl rfl ?_
 refine la rfl rfl rfl rfl rfl ?_
 refine L_nil ?_
 refine T_ret ?_
 refine T_slot 4 _ (b64 h) rfl (by first | rw [hh] | rw [hl]) ?_
 refine T_slot 5 (b64 (x * y)) (b64 l) rfl (by first | rw [hh] | rw [hl]) ?_
 exact T_fin (h, l) (hhl) (res2 rfl rfl rfl) [] ⟨by decide, rfl⟩ rfl
set_option maxHeartbeats 4000000 in
theorem plus_f (a0 : BitVec 64) (a1 : BitVec 64) (a2 : BitVec 64) (x : BitVec 64) (y : BitVec 64) (z : BitVec 64) (w : World) (hO : HOK [] w) (hb : a2.toNat + z.toNat + 1 < 18446744073709551616) : Calls Try.prog 35 [(.agg [(b64 a0), (b64 a1), (b64 a2)].toArray), (b64 x), (b64 y), (b64 z)].toArray w (Ret (T := BitVec 64 × BitVec 64 × BitVec 64) [] w (fun ⟨b0, b1, b2⟩ => v3 b0 b1 b2 = v3 a0 a1 a2 + v3 x y z) (fun ⟨b0, b1, b2⟩ => (.agg [(b64 b0), (b64 b1), (b64 b2)].toArray)) (fun ⟨b0, b1, b2⟩ => [])) := by
 have hF : Wid Fence.wide := wid_wide
 refine enter (c := _) Try.func35 rfl [] [(.agg [(b64 a0), (b64 a1), (b64 a2)].toArray), (b64 x), (b64 y), (b64 z)] [] (by rw [Try.ntmps35]; rfl) (own_rds hO rfl) ?_
 rw [Try.ntmps35]
 refine T_re [(0, (.agg [(b64 a0), (b64 a1), (b64 a2)].toArray)), (1, (b64 x)), (2, (b64 y)), (3, (b64 z))] (sc rfl (sc rfl (sc rfl (sc rfl sn)))) ?_
 refine T_he [] [] ⟨by decide, rfl⟩ ?_
 refine Tsr hF rfl ?_
 refine L_op rfl (op_box (zs := [(b64 a0), (b64 a1), (b64 a2)]) rfl rfl rfl rfl rfl (fun g1 => ?_))
 refine L_op rfl (op_alloc (z := .agg [(b64 (0#64)), (b64 (0#64)), (b64 (0#64))].toArray) (zs := [(b64 (0#64)), (b64 (0#64)), (b64 (0#64))]) kr rfl rfl rfl rfl (fun g2 => ?_))
 refine L_nil ?_
 refine Tsr hF rfl ?_
 refine la rfl rfl rfl rfl rfl ?_
 refine L_nil ?_
 refine Tsr hF rfl ?_
 refine lo rfl (pr_ixa (j := 0) (m' := 0) sd (by omega) Try.underlying53 (z := 1) kr rfl rfl rfl) rfl rfl ?_
 refine lq rfl (ld_blk 1 rfl rfl Try.underlying49 rfl rfl rfl) rfl rfl ?_
 refine lm rfl rfl rfl rfl rfl ?_
 obtain ⟨s3, d4, ha_5, hb_6, hv_7⟩ := add64_at a0 x (0#64) (by first | assumption | decide)
 refine lo rfl (pr_extern hv_7 rfl rfl rfl) rfl rfl ?_
 refine lm rfl rfl rfl rfl rfl ?_
 refine lo rfl (pr_ext (vs := [(b64 s3), (b64 d4)]) rfl rfl rfl) rfl rfl ?_
 refine lo rfl (pr_ext (vs := [(b64 s3), (b64 d4)]) rfl rfl rfl) rfl rfl ?_
 refine lo rfl (pr_ixa (j := 0) (m' := 0) sd (by omega) Try.underlying53 (z := 1) kr rfl rfl rfl) rfl rfl ?_
 refine L_op rfl (op_store (vs := [(b64 s3)]) (cs' := [(b64 s3), (b64 a1), (b64 a2)]) 1 rfl rfl kr (one_one rfl) (by first | decide | simp | exact Nat.le_refl _) rfl rfl rfl rfl rfl ?_)
 refine la rfl rfl rfl rfl rfl ?_
 refine L_nil ?_
 refine Tsr hF rfl ?_
 refine lo rfl (pr_ixa (j := 1) (m' := 1) sd (by omega) Try.underlying53 (z := 1) kr rfl rfl rfl) rfl rfl ?_
 refine lq rfl (ld_blk 0 rfl rfl Try.underlying49 rfl rfl rfl) rfl rfl ?_
 refine lm rfl rfl rfl rfl rfl ?_
 refine lm rfl rfl rfl rfl rfl ?_
 obtain ⟨s8, d9, ha_10, hb_11, hv_12⟩ := add64_at a1 y d4 (by first | assumption | decide)
 refine lo rfl (pr_extern hv_12 rfl rfl rfl) rfl rfl ?_
 refine lm rfl rfl rfl rfl rfl ?_
 refine lo rfl (pr_ext (vs := [(b64 s8), (b64 d9)]) rfl rfl rfl) rfl rfl ?_
 refine lo rfl (pr_ext (vs := [(b64 s8), (b64 d9)]) rfl rfl rfl) rfl rfl ?_
 refine lo rfl (pr_ixa (j := 1) (m' := 1) sd (by omega) Try.underlying53 (z := 1) kr rfl rfl rfl) rfl rfl ?_
 refine L_op rfl (op_store (vs := [(b64 s8)]) (cs' := [(b64 s3), (b64 s8), (b64 a2)]) 0 rfl rfl kr (one_one rfl) (by first | decide | simp | exact Nat.le_refl _) rfl rfl rfl rfl rfl ?_)
 refine la rfl rfl rfl rfl rfl ?_
 refine L_nil ?_
 refine Tsr hF rfl ?_
 refine lo rfl (pr_ixa (j := 2) (m' := 2) sd (by omega) Try.underlying53 (z := 1) kr rfl rfl rfl) rfl rfl ?_
 refine lq rfl (ld_blk 0 rfl rfl Try.underlying49 rfl rfl rfl) rfl rfl ?_
 refine lm rfl rfl rfl rfl rfl ?_
 refine lm rfl rfl rfl rfl rfl ?_
 refine lo rfl (pr_add (add64 _ _) rfl rfl rfl) rfl rfl ?_
 refine lo rfl (pr_add (add64 _ _) rfl rfl rfl) rfl rfl ?_
 refine lo rfl (pr_ixa (j := 2) (m' := 2) sd (by omega) Try.underlying53 (z := 1) kr rfl rfl rfl) rfl rfl ?_
 refine L_op rfl (op_store (vs := [(b64 (a2 + (z + d9)))]) (cs' := [(b64 s3), (b64 s8), (b64 (a2 + (z + d9)))]) 0 rfl rfl kr (one_one rfl) (by first | decide | simp | exact Nat.le_refl _) rfl rfl rfl rfl rfl ?_)
 refine L_nil ?_
 refine Tsr hF rfl ?_
 refine lq rfl (ld_agg (ds := [(b64 s3), (b64 s8), (b64 (a2 + (z + d9)))]) 0 rfl agg_all Try.underlying53 rfl kr rfl rfl) rfl rfl ?_
 refine L_op rfl (op_sto (n := 3) (vs := [(b64 s3), (b64 s8), (b64 (a2 + (z + d9)))]) 1 rfl rfl kr (by simp [Value.oneCell']) kr kr rfl rfl rfl rfl ?_)
 refine L_nil ?_
 refine T_ret ?_
 exact T_fin (s3, s8, (a2 + (z + d9))) (plus_law (by assumption) (by assumption) (by assumption) hb) (resb 0 rfl rfl rfl Try.underlying53 rfl kr) [] ⟨by decide, rfl⟩ rfl
/-- One place, without some bits. -/
def setand (xs : List (BitVec 8)) (i : Nat) (b : BitVec 8) : List (BitVec 8) := xs.set i (ath xs i &&& b)
theorem setand_def (xs : List (BitVec 8)) (i : Nat) (b : BitVec 8) : xs.set i (ath xs i &&& b) = setand xs i b := rfl
theorem setand_len (xs : List (BitVec 8)) (i : Nat) (b : BitVec 8) : (setand xs i b).length = xs.length := by simp [setand]
theorem ath_setand (xs : List (BitVec 8)) (i j : Nat) (b : BitVec 8) (h : i < xs.length) : ath (setand xs i b) j = if i = j then ath xs j &&& b else ath xs j := by
  unfold setand
  rw [ath_set _ _ _ _ h]
  split
  · next e => rw [e]
  · rfl
theorem clamp_hand (key : List (BitVec 8)) (h : key.length = 32) : setand (setand (setand (setand (setand (setand (setand (List.take 16 key) 3 15#8) 7 15#8) 11 15#8) 15 15#8) 4 252#8) 8 252#8) 12 252#8 = clampb key := by
  have hl : (List.take 16 key).length = 16 := by simp; omega
  refine ext_ath (by simp only [setand_len, clampb_len, hl]) (fun j hj => ?_)
  simp only [setand_len, hl] at hj
  rw [clampb_at _ _ hj]
  rw [ath_setand _ _ _ _ (by simp only [setand_len, hl]; omega), ath_setand _ _ _ _ (by simp only [setand_len, hl]; omega), ath_setand _ _ _ _ (by simp only [setand_len, hl]; omega), ath_setand _ _ _ _ (by simp only [setand_len, hl]; omega), ath_setand _ _ _ _ (by simp only [setand_len, hl]; omega), ath_setand _ _ _ _ (by simp only [setand_len, hl]; omega), ath_setand _ _ _ _ (by simp only [setand_len, hl]; omega), ath_take _ _ _ hj]
  rcases (by omega : j = 0 ∨ j = 1 ∨ j = 2 ∨ j = 3 ∨ j = 4 ∨ j = 5 ∨ j = 6 ∨ j = 7 ∨ j = 8 ∨ j = 9 ∨ j = 10 ∨ j = 11 ∨ j = 12 ∨ j = 13 ∨ j = 14 ∨ j = 15) with rfl | rfl | rfl | rfl | rfl | rfl | rfl | rfl | rfl | rfl | rfl | rfl | rfl | rfl | rfl | rfl <;> simp
attribute [irreducible] setand

set_option maxHeartbeats 4000000 in
theorem clamp_f (key : List (BitVec 8)) (w : World) (hO : HOK [] w) (hkl : key.length = 32) : Calls Try.prog 20 [(.agg (key.map b8).toArray)].toArray w (Ret (T := Unit) [] w (fun _ => True) (fun _ => (.agg ((clampb key).map b8).toArray)) (fun _ => [])) := by
 have hcl := clampb_len key
 have htl : (List.take 16 key).length = 16 := by simp; omega
 have hF : Wid Fence.wide := wid_wide
 refine enter (c := _) Try.func20 rfl [] [(.agg (key.map b8).toArray)] [] (by rw [Try.ntmps20]; rfl) (own_rds hO rfl) ?_
 rw [Try.ntmps20]
 refine T_re [(0, (.agg (key.map b8).toArray))] (sc rfl sn) ?_
 refine T_he [] [] ⟨by decide, rfl⟩ ?_
 refine Tsr hF rfl ?_
 refine L_op rfl (op_box (zs := (key.map b8)) rfl rfl rfl rfl rfl (fun g1 => ?_))
 refine L_op rfl (op_alloc (z := .agg ((List.replicate 16 0#8).map b8).toArray) (zs := ((List.replicate 16 0#8).map b8)) kr rfl rfl rfl rfl (fun g2 => ?_))
 refine L_nil ?_
 refine Tsr hF rfl ?_
 refine lo rfl (pr_sla (l := 0) (u := 16) (m := 0) sd sd sd rfl Try.underlying22 (z := 1) kr rfl rfl rfl ⟨_, rfl⟩) rfl rfl ?_
 refine lo rfl (pr_s2a sd Try.underlying27 rfl rfl) rfl rfl ?_
 refine lq rfl (ld_agg (ds := ((List.take 16 key).map b8)) 1 rfl (by simp [List.map_take, List.map_drop]) Try.underlying27 rfl (fwz (n := 16) kr sd) rfl rfl) rfl rfl ?_
 refine L_op rfl (op_alloc (z := .agg ((List.replicate 16 0#8).map b8).toArray) (zs := ((List.replicate 16 0#8).map b8)) kr rfl rfl rfl rfl (fun g3 => ?_))
 refine L_op rfl (op_sto (n := 16) (vs := ((List.take 16 key).map b8)) 0 rfl rfl kr (all8_one _) kr sd rfl rfl rfl rfl ?_)
 refine L_nil ?_
 refine T_seq ?_
 refine Tsr hF rfl ?_
 refine L_op rfl (op_bslice (e := 3) (zs := [(.int .i64 ((3 : Nat) : Int)), (.int .i64 ((7 : Nat) : Int)), (.int .i64 ((11 : Nat) : Int)), (.int .i64 ((15 : Nat) : Int))]) (qs := [(0, (.int .i64 ((3 : Nat) : Int))), (1, (.int .i64 ((7 : Nat) : Int))), (2, (.int .i64 ((11 : Nat) : Int))), (3, (.int .i64 ((15 : Nat) : Int)))]) (fun _ => by kernel_rfl) rfl rfl rfl rfl (fun g4 => ?_))
 refine lo rfl (pr_len_sl Try.underlying67 rfl rfl) rfl rfl ?_
 refine lm rfl rfl rfl rfl rfl ?_
 refine L_nil ?_
 refine T_block ?_
 refine T_rounds 5 ?_
 refine T_round ?_
 refine Tsr hF rfl ?_
 refine lo rfl (pr_cmp (bo := .lss) (nc_lt (a := 0) (b := 4)) rfl rfl rfl rfl) rfl rfl ?_
 refine L_nil ?_
 refine T_seq ?_
 refine T_cond_t rfl ?_
 refine T_skip ?_
 refine T_seq ?_
 refine T_block ?_
 refine Tsr hF rfl ?_
 refine lo rfl (pr_ixb (j := 0) (m' := 0) sd (by omega) Try.underlying67 (z := 1) kr rfl rfl rfl) rfl rfl ?_
 refine lq rfl (ld_blk 0 rfl rfl Try.underlying3 rfl rfl rfl) rfl rfl ?_
 refine la rfl rfl rfl rfl rfl ?_
 refine L_nil ?_
 refine T_reg hF rfl ?_
 refine lm rfl rfl rfl rfl rfl ?_
 refine lo rfl (pr_ixa (j := 3) (m' := 3) sd (by omega) Try.underlying27 (z := 1) kr rfl rfl rfl) rfl rfl ?_
 refine lq rfl (ld_blk 1 rfl (get8 sd) Try.underlying5 rfl rfl rfl) rfl rfl ?_
 refine lo rfl (pr_and (ib_and8 _ (15#8)) rfl rfl rfl) rfl rfl ?_
 refine lo rfl (pr_ixa (j := 3) (m' := 3) sd (by omega) Try.underlying27 (z := 1) kr rfl rfl rfl) rfl rfl ?_
 refine L_op rfl (op_store (vs := [(b8 ((ath (List.take 16 key) 3) &&& 15#8))]) (cs' := ((List.set (List.take 16 key) 3 ((ath (List.take 16 key) 3) &&& 15#8)).map b8)) 1 rfl rfl kr (one_one rfl) (stl sd) (splice_map (f := b8) sd) rfl rfl rfl rfl ?_)
 refine L_nil ?_
 refine T_reg hF rfl ?_
 refine lo rfl (pr_add (na_i64 (a := 0) (b := 1) sd) rfl rfl rfl) rfl rfl ?_
 refine lm rfl rfl rfl rfl rfl ?_
 refine L_nil ?_
 refine T_round ?_
 refine T_as 0 _ (.blk g3 27 ((setand (List.take 16 key) 3 15#8).map b8)) rfl (by rw [setand_def]) ?_
 have hse2 : ((setand (List.take 16 key) 3 15#8)).length = 16 := by simp only [setand_len]; omega
 refine Tsr hF rfl ?_
 refine lo rfl (pr_cmp (bo := .lss) (nc_lt (a := 1) (b := 4)) rfl rfl rfl rfl) rfl rfl ?_
 refine L_nil ?_
 refine T_seq ?_
 refine T_cond_t rfl ?_
 refine T_skip ?_
 refine T_seq ?_
 refine T_block ?_
 refine Tsr hF rfl ?_
 refine lo rfl (pr_ixb (j := 1) (m' := 1) sd (by omega) Try.underlying67 (z := 1) kr rfl rfl rfl) rfl rfl ?_
 refine lq rfl (ld_blk 1 rfl rfl Try.underlying3 rfl rfl rfl) rfl rfl ?_
 refine la rfl rfl rfl rfl rfl ?_
 refine L_nil ?_
 refine T_reg hF rfl ?_
 refine lm rfl rfl rfl rfl rfl ?_
 refine lo rfl (pr_ixa (j := 7) (m' := 7) sd (by omega) Try.underlying27 (z := 1) kr rfl rfl rfl) rfl rfl ?_
 refine lq rfl (ld_blk 0 rfl (get8 sd) Try.underlying5 rfl rfl rfl) rfl rfl ?_
 refine lo rfl (pr_and (ib_and8 _ (15#8)) rfl rfl rfl) rfl rfl ?_
 refine lo rfl (pr_ixa (j := 7) (m' := 7) sd (by omega) Try.underlying27 (z := 1) kr rfl rfl rfl) rfl rfl ?_
 refine L_op rfl (op_store (vs := [(b8 ((ath (setand (List.take 16 key) 3 15#8) 7) &&& 15#8))]) (cs' := ((List.set (setand (List.take 16 key) 3 15#8) 7 ((ath (setand (List.take 16 key) 3 15#8) 7) &&& 15#8)).map b8)) 0 rfl rfl kr (one_one rfl) (stl sd) (splice_map (f := b8) sd) rfl rfl rfl rfl ?_)
 refine L_nil ?_
 refine T_reg hF rfl ?_
 refine lo rfl (pr_add (na_i64 (a := 1) (b := 1) sd) rfl rfl rfl) rfl rfl ?_
 refine lm rfl rfl rfl rfl rfl ?_
 refine L_nil ?_
 refine T_round ?_
 refine T_as 0 _ (.blk g3 27 ((setand (setand (List.take 16 key) 3 15#8) 7 15#8).map b8)) rfl (by rw [setand_def]) ?_
 have hse3 : ((setand (setand (List.take 16 key) 3 15#8) 7 15#8)).length = 16 := by simp only [setand_len]; omega
 refine Tsr hF rfl ?_
 refine lo rfl (pr_cmp (bo := .lss) (nc_lt (a := 2) (b := 4)) rfl rfl rfl rfl) rfl rfl ?_
 refine L_nil ?_
 refine T_seq ?_
 refine T_cond_t rfl ?_
 refine T_skip ?_
 refine T_seq ?_
 refine T_block ?_
 refine Tsr hF rfl ?_
 refine lo rfl (pr_ixb (j := 2) (m' := 2) sd (by omega) Try.underlying67 (z := 1) kr rfl rfl rfl) rfl rfl ?_
 refine lq rfl (ld_blk 1 rfl rfl Try.underlying3 rfl rfl rfl) rfl rfl ?_
 refine la rfl rfl rfl rfl rfl ?_
 refine L_nil ?_
 refine T_reg hF rfl ?_
 refine lm rfl rfl rfl rfl rfl ?_
 refine lo rfl (pr_ixa (j := 11) (m' := 11) sd (by omega) Try.underlying27 (z := 1) kr rfl rfl rfl) rfl rfl ?_
 refine lq rfl (ld_blk 0 rfl (get8 sd) Try.underlying5 rfl rfl rfl) rfl rfl ?_
 refine lo rfl (pr_and (ib_and8 _ (15#8)) rfl rfl rfl) rfl rfl ?_
 refine lo rfl (pr_ixa (j := 11) (m' := 11) sd (by omega) Try.underlying27 (z := 1) kr rfl rfl rfl) rfl rfl ?_
 refine L_op rfl (op_store (vs := [(b8 ((ath (setand (setand (List.take 16 key) 3 15#8) 7 15#8) 11) &&& 15#8))]) (cs' := ((List.set (setand (setand (List.take 16 key) 3 15#8) 7 15#8) 11 ((ath (setand (setand (List.take 16 key) 3 15#8) 7 15#8) 11) &&& 15#8)).map b8)) 0 rfl rfl kr (one_one rfl) (stl sd) (splice_map (f := b8) sd) rfl rfl rfl rfl ?_)
 refine L_nil ?_
 refine T_reg hF rfl ?_
 refine lo rfl (pr_add (na_i64 (a := 2) (b := 1) sd) rfl rfl rfl) rfl rfl ?_
 refine lm rfl rfl rfl rfl rfl ?_
 refine L_nil ?_
 refine T_round ?_
 refine T_as 0 _ (.blk g3 27 ((setand (setand (setand (List.take 16 key) 3 15#8) 7 15#8) 11 15#8).map b8)) rfl (by rw [setand_def]) ?_
 have hse4 : ((setand (setand (setand (List.take 16 key) 3 15#8) 7 15#8) 11 15#8)).length = 16 := by simp only [setand_len]; omega
 refine Tsr hF rfl ?_
 refine lo rfl (pr_cmp (bo := .lss) (nc_lt (a := 3) (b := 4)) rfl rfl rfl rfl) rfl rfl ?_
 refine L_nil ?_
 refine T_re [(2, (.pointer (some ⟨g2, 0, none⟩))), (3, (.pointer (some ⟨g3, 0, none⟩))), (11, (.slice (some ⟨g4, 0, none⟩) 4 4)), (12, (.int .i64 ((4 : Nat) : Int))), (13, (.int .i64 ((3 : Nat) : Int))), (14, (.bool (decide (3 < 4))))] (sc rfl (sc rfl (sc rfl (sc rfl (sc rfl (sc rfl sn)))))) ?_
 refine T_he [0, 1, 2, 3] [.blk g3 27 ((setand (setand (setand (List.take 16 key) 3 15#8) 7 15#8) 11 15#8).map b8), .blk g4 3 [(.int .i64 ((3 : Nat) : Int)), (.int .i64 ((7 : Nat) : Int)), (.int .i64 ((11 : Nat) : Int)), (.int .i64 ((15 : Nat) : Int))], .blk g2 27 ((List.replicate 16 0#8).map b8), .blk g1 22 (key.map b8)] ⟨by decide, rfl⟩ ?_
 refine T_seq ?_
 refine T_cond_t rfl ?_
 refine T_skip ?_
 refine T_seq ?_
 refine T_block ?_
 refine Tsr hF rfl ?_
 refine lo rfl (pr_ixb (j := 3) (m' := 3) sd (by omega) Try.underlying67 (z := 1) kr rfl rfl rfl) rfl rfl ?_
 refine lq rfl (ld_blk 1 rfl rfl Try.underlying3 rfl rfl rfl) rfl rfl ?_
 refine la rfl rfl rfl rfl rfl ?_
 refine L_nil ?_
 refine T_reg hF rfl ?_
 refine lm rfl rfl rfl rfl rfl ?_
 refine lo rfl (pr_ixa (j := 15) (m' := 15) sd (by omega) Try.underlying27 (z := 1) kr rfl rfl rfl) rfl rfl ?_
 refine lq rfl (ld_blk 0 rfl (get8 sd) Try.underlying5 rfl rfl rfl) rfl rfl ?_
 refine lo rfl (pr_and (ib_and8 _ (15#8)) rfl rfl rfl) rfl rfl ?_
 refine lo rfl (pr_ixa (j := 15) (m' := 15) sd (by omega) Try.underlying27 (z := 1) kr rfl rfl rfl) rfl rfl ?_
 refine L_op rfl (op_store (vs := [(b8 ((ath (setand (setand (setand (List.take 16 key) 3 15#8) 7 15#8) 11 15#8) 15) &&& 15#8))]) (cs' := ((List.set (setand (setand (setand (List.take 16 key) 3 15#8) 7 15#8) 11 15#8) 15 ((ath (setand (setand (setand (List.take 16 key) 3 15#8) 7 15#8) 11 15#8) 15) &&& 15#8)).map b8)) 0 rfl rfl kr (one_one rfl) (stl sd) (splice_map (f := b8) sd) rfl rfl rfl rfl ?_)
 refine L_nil ?_
 refine T_reg hF rfl ?_
 refine lo rfl (pr_add (na_i64 (a := 3) (b := 1) sd) rfl rfl rfl) rfl rfl ?_
 refine lm rfl rfl rfl rfl rfl ?_
 refine L_nil ?_
 refine T_round ?_
 refine T_as 0 _ (.blk g3 27 ((setand (setand (setand (setand (List.take 16 key) 3 15#8) 7 15#8) 11 15#8) 15 15#8).map b8)) rfl (by rw [setand_def]) ?_
 have hse5 : ((setand (setand (setand (setand (List.take 16 key) 3 15#8) 7 15#8) 11 15#8) 15 15#8)).length = 16 := by simp only [setand_len]; omega
 refine Tsr hF rfl ?_
 refine lo rfl (pr_cmp (bo := .lss) (nc_lt (a := 4) (b := 4)) rfl rfl rfl rfl) rfl rfl ?_
 refine L_nil ?_
 refine T_seq ?_
 refine T_cond_f rfl ?_
 refine T_exit rfl ?_
 refine T_seq ?_
 refine Tsr hF rfl ?_
 refine L_op rfl (op_bslice (e := 3) (zs := [(.int .i64 ((4 : Nat) : Int)), (.int .i64 ((8 : Nat) : Int)), (.int .i64 ((12 : Nat) : Int))]) (qs := [(0, (.int .i64 ((4 : Nat) : Int))), (1, (.int .i64 ((8 : Nat) : Int))), (2, (.int .i64 ((12 : Nat) : Int)))]) (fun _ => by kernel_rfl) rfl rfl rfl rfl (fun g5 => ?_))
 refine lo rfl (pr_len_sl Try.underlying67 rfl rfl) rfl rfl ?_
 refine lm rfl rfl rfl rfl rfl ?_
 refine L_nil ?_
 refine T_block ?_
 refine T_rounds 4 ?_
 refine T_round ?_
 refine Tsr hF rfl ?_
 refine lo rfl (pr_cmp (bo := .lss) (nc_lt (a := 0) (b := 3)) rfl rfl rfl rfl) rfl rfl ?_
 refine L_nil ?_
 refine T_seq ?_
 refine T_cond_t rfl ?_
 refine T_skip ?_
 refine T_seq ?_
 refine T_block ?_
 refine Tsr hF rfl ?_
 refine lo rfl (pr_ixb (j := 0) (m' := 0) sd (by omega) Try.underlying67 (z := 1) kr rfl rfl rfl) rfl rfl ?_
 refine lq rfl (ld_blk 0 rfl rfl Try.underlying3 rfl rfl rfl) rfl rfl ?_
 refine la rfl rfl rfl rfl rfl ?_
 refine L_nil ?_
 refine T_reg hF rfl ?_
 refine lm rfl rfl rfl rfl rfl ?_
 refine lo rfl (pr_ixa (j := 4) (m' := 4) sd (by omega) Try.underlying27 (z := 1) kr rfl rfl rfl) rfl rfl ?_
 refine lq rfl (ld_blk 1 rfl (get8 sd) Try.underlying5 rfl rfl rfl) rfl rfl ?_
 refine lo rfl (pr_and (ib_and8 _ (252#8)) rfl rfl rfl) rfl rfl ?_
 refine lo rfl (pr_ixa (j := 4) (m' := 4) sd (by omega) Try.underlying27 (z := 1) kr rfl rfl rfl) rfl rfl ?_
 refine L_op rfl (op_store (vs := [(b8 ((ath (setand (setand (setand (setand (List.take 16 key) 3 15#8) 7 15#8) 11 15#8) 15 15#8) 4) &&& 252#8))]) (cs' := ((List.set (setand (setand (setand (setand (List.take 16 key) 3 15#8) 7 15#8) 11 15#8) 15 15#8) 4 ((ath (setand (setand (setand (setand (List.take 16 key) 3 15#8) 7 15#8) 11 15#8) 15 15#8) 4) &&& 252#8)).map b8)) 1 rfl rfl kr (one_one rfl) (stl sd) (splice_map (f := b8) sd) rfl rfl rfl rfl ?_)
 refine L_nil ?_
 refine T_reg hF rfl ?_
 refine lo rfl (pr_add (na_i64 (a := 0) (b := 1) sd) rfl rfl rfl) rfl rfl ?_
 refine lm rfl rfl rfl rfl rfl ?_
 refine L_nil ?_
 refine T_round ?_
 refine T_as 0 _ (.blk g3 27 ((setand (setand (setand (setand (setand (List.take 16 key) 3 15#8) 7 15#8) 11 15#8) 15 15#8) 4 252#8).map b8)) rfl (by rw [setand_def]) ?_
 have hse6 : ((setand (setand (setand (setand (setand (List.take 16 key) 3 15#8) 7 15#8) 11 15#8) 15 15#8) 4 252#8)).length = 16 := by simp only [setand_len]; omega
 refine Tsr hF rfl ?_
 refine lo rfl (pr_cmp (bo := .lss) (nc_lt (a := 1) (b := 3)) rfl rfl rfl rfl) rfl rfl ?_
 refine L_nil ?_
 refine T_seq ?_
 refine T_cond_t rfl ?_
 refine T_skip ?_
 refine T_seq ?_
 refine T_block ?_
 refine Tsr hF rfl ?_
 refine lo rfl (pr_ixb (j := 1) (m' := 1) sd (by omega) Try.underlying67 (z := 1) kr rfl rfl rfl) rfl rfl ?_
 refine lq rfl (ld_blk 1 rfl rfl Try.underlying3 rfl rfl rfl) rfl rfl ?_
 refine la rfl rfl rfl rfl rfl ?_
 refine L_nil ?_
 refine T_reg hF rfl ?_
 refine lm rfl rfl rfl rfl rfl ?_
 refine lo rfl (pr_ixa (j := 8) (m' := 8) sd (by omega) Try.underlying27 (z := 1) kr rfl rfl rfl) rfl rfl ?_
 refine lq rfl (ld_blk 0 rfl (get8 sd) Try.underlying5 rfl rfl rfl) rfl rfl ?_
 refine lo rfl (pr_and (ib_and8 _ (252#8)) rfl rfl rfl) rfl rfl ?_
 refine lo rfl (pr_ixa (j := 8) (m' := 8) sd (by omega) Try.underlying27 (z := 1) kr rfl rfl rfl) rfl rfl ?_
 refine L_op rfl (op_store (vs := [(b8 ((ath (setand (setand (setand (setand (setand (List.take 16 key) 3 15#8) 7 15#8) 11 15#8) 15 15#8) 4 252#8) 8) &&& 252#8))]) (cs' := ((List.set (setand (setand (setand (setand (setand (List.take 16 key) 3 15#8) 7 15#8) 11 15#8) 15 15#8) 4 252#8) 8 ((ath (setand (setand (setand (setand (setand (List.take 16 key) 3 15#8) 7 15#8) 11 15#8) 15 15#8) 4 252#8) 8) &&& 252#8)).map b8)) 0 rfl rfl kr (one_one rfl) (stl sd) (splice_map (f := b8) sd) rfl rfl rfl rfl ?_)
 refine L_nil ?_
 refine T_reg hF rfl ?_
 refine lo rfl (pr_add (na_i64 (a := 1) (b := 1) sd) rfl rfl rfl) rfl rfl ?_
 refine lm rfl rfl rfl rfl rfl ?_
 refine L_nil ?_
 refine T_round ?_
 refine T_as 0 _ (.blk g3 27 ((setand (setand (setand (setand (setand (setand (List.take 16 key) 3 15#8) 7 15#8) 11 15#8) 15 15#8) 4 252#8) 8 252#8).map b8)) rfl (by rw [setand_def]) ?_
 have hse7 : ((setand (setand (setand (setand (setand (setand (List.take 16 key) 3 15#8) 7 15#8) 11 15#8) 15 15#8) 4 252#8) 8 252#8)).length = 16 := by simp only [setand_len]; omega
 refine Tsr hF rfl ?_
 refine lo rfl (pr_cmp (bo := .lss) (nc_lt (a := 2) (b := 3)) rfl rfl rfl rfl) rfl rfl ?_
 refine L_nil ?_
 refine T_seq ?_
 refine T_cond_t rfl ?_
 refine T_skip ?_
 refine T_seq ?_
 refine T_block ?_
 refine Tsr hF rfl ?_
 refine lo rfl (pr_ixb (j := 2) (m' := 2) sd (by omega) Try.underlying67 (z := 1) kr rfl rfl rfl) rfl rfl ?_
 refine lq rfl (ld_blk 1 rfl rfl Try.underlying3 rfl rfl rfl) rfl rfl ?_
 refine la rfl rfl rfl rfl rfl ?_
 refine L_nil ?_
 refine T_reg hF rfl ?_
 refine lm rfl rfl rfl rfl rfl ?_
 refine lo rfl (pr_ixa (j := 12) (m' := 12) sd (by omega) Try.underlying27 (z := 1) kr rfl rfl rfl) rfl rfl ?_
 refine lq rfl (ld_blk 0 rfl (get8 sd) Try.underlying5 rfl rfl rfl) rfl rfl ?_
 refine lo rfl (pr_and (ib_and8 _ (252#8)) rfl rfl rfl) rfl rfl ?_
 refine lo rfl (pr_ixa (j := 12) (m' := 12) sd (by omega) Try.underlying27 (z := 1) kr rfl rfl rfl) rfl rfl ?_
 refine L_op rfl (op_store (vs := [(b8 ((ath (setand (setand (setand (setand (setand (setand (List.take 16 key) 3 15#8) 7 15#8) 11 15#8) 15 15#8) 4 252#8) 8 252#8) 12) &&& 252#8))]) (cs' := ((List.set (setand (setand (setand (setand (setand (setand (List.take 16 key) 3 15#8) 7 15#8) 11 15#8) 15 15#8) 4 252#8) 8 252#8) 12 ((ath (setand (setand (setand (setand (setand (setand (List.take 16 key) 3 15#8) 7 15#8) 11 15#8) 15 15#8) 4 252#8) 8 252#8) 12) &&& 252#8)).map b8)) 0 rfl rfl kr (one_one rfl) (stl sd) (splice_map (f := b8) sd) rfl rfl rfl rfl ?_)
 refine L_nil ?_
 refine T_re [(2, (.pointer (some ⟨g2, 0, none⟩))), (3, (.pointer (some ⟨g3, 0, none⟩))), (23, (.slice (some ⟨g5, 0, none⟩) 3 3)), (24, (.int .i64 ((3 : Nat) : Int))), (25, (.int .i64 ((2 : Nat) : Int)))] (sc rfl (sc rfl (sc rfl (sc rfl (sc rfl sn))))) ?_
 refine T_he [0, 1, 2, 3, 4] [.blk g3 27 ((List.set (setand (setand (setand (setand (setand (setand (List.take 16 key) 3 15#8) 7 15#8) 11 15#8) 15 15#8) 4 252#8) 8 252#8) 12 ((ath (setand (setand (setand (setand (setand (setand (List.take 16 key) 3 15#8) 7 15#8) 11 15#8) 15 15#8) 4 252#8) 8 252#8) 12) &&& 252#8)).map b8), .blk g5 3 [(.int .i64 ((4 : Nat) : Int)), (.int .i64 ((8 : Nat) : Int)), (.int .i64 ((12 : Nat) : Int))], .blk g4 3 [(.int .i64 ((3 : Nat) : Int)), (.int .i64 ((7 : Nat) : Int)), (.int .i64 ((11 : Nat) : Int)), (.int .i64 ((15 : Nat) : Int))], .blk g2 27 ((List.replicate 16 0#8).map b8), .blk g1 22 (key.map b8)] ⟨by decide, rfl⟩ ?_
 refine T_reg hF rfl ?_
 refine lo rfl (pr_add (na_i64 (a := 2) (b := 1) sd) rfl rfl rfl) rfl rfl ?_
 refine lm rfl rfl rfl rfl rfl ?_
 refine L_nil ?_
 refine T_round ?_
 refine T_as 0 _ (.blk g3 27 ((setand (setand (setand (setand (setand (setand (setand (List.take 16 key) 3 15#8) 7 15#8) 11 15#8) 15 15#8) 4 252#8) 8 252#8) 12 252#8).map b8)) rfl (by rw [setand_def]) ?_
 have hse8 : ((setand (setand (setand (setand (setand (setand (setand (List.take 16 key) 3 15#8) 7 15#8) 11 15#8) 15 15#8) 4 252#8) 8 252#8) 12 252#8)).length = 16 := by simp only [setand_len]; omega
 refine Tsr hF rfl ?_
 refine lo rfl (pr_cmp (bo := .lss) (nc_lt (a := 3) (b := 3)) rfl rfl rfl rfl) rfl rfl ?_
 refine L_nil ?_
 refine T_seq ?_
 refine T_cond_f rfl ?_
 refine T_exit rfl ?_
 refine Tsr hF rfl ?_
 refine lq rfl (ld_agg (ds := ((setand (setand (setand (setand (setand (setand (setand (List.take 16 key) 3 15#8) 7 15#8) 11 15#8) 15 15#8) 4 252#8) 8 252#8) 12 252#8).map b8)) 0 rfl agg_all Try.underlying27 rfl (fwz (n := 16) kr sd) rfl rfl) rfl rfl ?_
 refine L_op rfl (op_sto (n := 16) (vs := ((setand (setand (setand (setand (setand (setand (setand (List.take 16 key) 3 15#8) 7 15#8) 11 15#8) 15 15#8) 4 252#8) 8 252#8) 12 252#8).map b8)) 3 rfl rfl kr (all8_one _) kr sd rfl rfl rfl rfl ?_)
 refine L_nil ?_
 refine T_ret ?_
 refine T_as 0 _ (.blk g2 27 ((clampb key).map b8)) rfl (by rw [clamp_hand key hkl]) ?_
 exact T_fin () (by first | trivial | omega | (simp; done)) (resb 0 rfl rfl rfl Try.underlying27 rfl (fwz (n := 16) kr sd)) [] ⟨by decide, rfl⟩ rfl
end Go.Proofs.Ytemjinkdfjoicaa
