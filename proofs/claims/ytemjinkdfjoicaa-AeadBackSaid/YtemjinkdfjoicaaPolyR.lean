/- Places of a byte each in 32 bits: carried, multiplied, made less: what the reference of layer 6 does. No conditions. -/
import Derived.Test.YtemjinkdfjoicaaPolyL
namespace Go.Proofs.Ytemjinkdfjoicaa
set_option linter.unusedVariables false
set_option linter.unusedSimpArgs false
open Bv Fw
theorem vw_split {k : Nat} (xs : List (BitVec k)) (i : Nat) (h : i < xs.length) : vw xs = vw (xs.take i) + 256 ^ i * ((ath xs i).toNat + 256 * vw (xs.drop (i + 1))) := by
  have e : xs = xs.take i ++ (ath xs i :: xs.drop (i + 1)) := by
    rw [ath_get xs i h, ← List.drop_eq_getElem_cons h, List.take_append_drop]
  rw [← vw_cons]
  conv => lhs; rw [e, vw_app, List.length_take, Nat.min_eq_left (by omega)]
/-- Each place is below a bound. -/
def Bd {k : Nat} (B : Nat) (xs : List (BitVec k)) : Prop := ∀ j, (ath xs j).toNat < B
theorem vw_take_lt {k : Nat} {B : Nat} (xs : List (BitVec k)) (hB : Bd B xs) : ∀ i, i ≤ xs.length → vw (xs.take i) < B * 256 ^ i
  | 0, _ => by
    have := hB 0
    rw [List.take_zero, vw_nil]; simp <;> omega
  | i + 1, h => by
    rw [vw_take_succ xs i (by omega), Nat.pow_succ]
    have h1 := vw_take_lt xs hB i (by omega)
    have h2 := hB i
    have h3 : 256 ^ i * (ath xs i).toNat ≤ 256 ^ i * B := Nat.mul_le_mul_left _ (by omega)
    have h4 : B * (256 ^ i * 256) = (256 ^ i * B) * 256 := by rw [← Nat.mul_assoc, Nat.mul_comm B]
    rw [h4]
    have h5 : B * 256 ^ i = 256 ^ i * B := Nat.mul_comm _ _
    rw [h5] at h1
    generalize 256 ^ i * B = q at *
    omega
/-- What is carried to place i. -/
def cy (xs : List (BitVec 32)) (i : Nat) : Nat := vw (xs.take i) / 256 ^ i
theorem cy_zero (xs : List (BitVec 32)) : cy xs 0 = 0 := by unfold cy; rw [List.take_zero, vw_nil]
theorem cy_succ (xs : List (BitVec 32)) (i : Nat) (h : i < xs.length) : cy xs (i + 1) = (cy xs i + (ath xs i).toNat) / 256 := by
  unfold cy
  rw [vw_take_succ xs i h, Nat.pow_succ, ← Nat.div_div_eq_div_mul, Nat.add_mul_div_left _ _ (Nat.pow_pos (by omega))]
theorem cy_lt (xs : List (BitVec 32)) (B : Nat) (hB : Bd B xs) (i : Nat) (h : i ≤ xs.length) : cy xs i < B := by
  unfold cy
  exact Nat.div_lt_of_lt_mul (by rw [Nat.mul_comm]; exact vw_take_lt xs hB i h)
theorem cy_dig (xs : List (BitVec 32)) (i : Nat) (h : i < xs.length) : (cy xs i + (ath xs i).toNat) % 256 = vw xs / 256 ^ i % 256 := by
  have hp : 0 < 256 ^ i := Nat.pow_pos (by omega)
  unfold cy
  rw [vw_split xs i h, Nat.add_mul_div_left _ _ hp]
  omega
/-- The first i places carried. -/
def cw (xs : List (BitVec 32)) (i : Nat) : List (BitVec 32) := dig 32 i (vw xs) ++ xs.drop i
theorem cw_len (xs : List (BitVec 32)) (i : Nat) (h : i ≤ xs.length) : (cw xs i).length = xs.length := by unfold cw; rw [List.length_append, dig_len, List.length_drop]; omega
theorem cw_zero (xs : List (BitVec 32)) : cw xs 0 = xs := by unfold cw dig; simp
theorem cw_all (xs : List (BitVec 32)) (n : Nat) (h : xs.length = n) : cw xs n = dig 32 n (vw xs) := by unfold cw; rw [List.drop_of_length_le (by omega), List.append_nil]
theorem cw_at (xs : List (BitVec 32)) (i : Nat) (h : i < xs.length) : ath (cw xs i) i = ath xs i := by
  unfold cw; rw [ath_app_r _ _ _ (by rw [dig_len]; omega), dig_len, ath_drop]; congr 1; omega
theorem dig_succ (k n v : Nat) : dig k (n + 1) v = dig k n v ++ [BitVec.ofNat k (v / 256 ^ n % 256)] := by
  unfold dig; rw [List.range_succ, List.map_append]; rfl
theorem cw_set (xs : List (BitVec 32)) (i : Nat) (h : i < xs.length) (v : BitVec 32) (hv : v.toNat = vw xs / 256 ^ i % 256) : (cw xs i).set i v = cw xs (i + 1) := by
  unfold cw
  rw [List.set_append_right _ _ (by rw [dig_len]; omega), dig_len, Nat.sub_self, List.drop_eq_getElem_cons h, List.set_cons_zero, dig_succ, List.append_assoc]
  congr 1
  rw [List.singleton_append]
  congr 1
  apply BitVec.eq_of_toNat_eq
  rw [hv, BitVec.toNat_ofNat]
  omega
theorem cy_add (xs : List (BitVec 32)) (B : Nat) (hB : Bd B xs) (hB2 : B ≤ 1073741824) (i : Nat) (h : i < xs.length) : (BitVec.ofNat 32 (cy xs i) + ath xs i).toNat = cy xs i + (ath xs i).toNat := by
  have h1 := cy_lt xs B hB i (by omega)
  have h2 := hB i
  rw [BitVec.toNat_add, BitVec.toNat_ofNat, Nat.mod_eq_of_lt (a := cy xs i) (by omega), Nat.mod_eq_of_lt (by omega)]
theorem cw_step (xs : List (BitVec 32)) (B : Nat) (hB : Bd B xs) (hB2 : B ≤ 1073741824) (i : Nat) (h : i < xs.length) : (cw xs i).set i ((BitVec.ofNat 32 (cy xs i) + ath (cw xs i) i) &&& 255#32) = cw xs (i + 1) := by
  refine cw_set xs i h _ ?_
  rw [cw_at xs i h, BitVec.toNat_and, cy_add xs B hB hB2 i h]
  exact (Nat.and_two_pow_sub_one_eq_mod _ 8).trans (cy_dig xs i h)
theorem cy_step (xs : List (BitVec 32)) (B : Nat) (hB : Bd B xs) (hB2 : B ≤ 1073741824) (i : Nat) (h : i < xs.length) : (BitVec.ofNat 32 (cy xs i) + ath (cw xs i) i) >>> 8 = BitVec.ofNat 32 (cy xs (i + 1)) := by
  apply BitVec.eq_of_toNat_eq
  have h1 := cy_lt xs B hB (i + 1) (by omega)
  rw [cw_at xs i h, BitVec.toNat_ushiftRight, cy_add xs B hB hB2 i h, Nat.shiftRight_eq_div_pow, BitVec.toNat_ofNat, cy_succ xs i h, Nat.mod_eq_of_lt (by rw [cy_succ xs i h] at h1; omega)]
theorem dig_bd (n v : Nat) : Bd 256 (dig 32 n v) := fun j => by
  by_cases h : j < n
  · rw [dig_at_nat 32 n v j (by omega) h]; omega
  · rw [ath_over _ _ (by rw [dig_len]; omega)]; decide
/-! Less, modulo 2^130 - 5. -/
def redlow (v i : Nat) : List (BitVec 32) := (List.range 40).map fun j => if j < i then BitVec.ofNat 32 (v % 1361129467683753853853498429727072845824 / 256 ^ j % 256) else 0#32
def redhigh (v i : Nat) : List (BitVec 32) := (List.range 40).map fun j => if j + 16 < i then BitVec.ofNat 32 (v / 1361129467683753853853498429727072845824 / 256 ^ j % 256) else 0#32
theorem redlow_len (v i : Nat) : (redlow v i).length = 40 := by simp [redlow]
theorem redhigh_len (v i : Nat) : (redhigh v i).length = 40 := by simp [redhigh]
theorem redlow_at (v i j : Nat) (h : j < 40) : ath (redlow v i) j = if j < i then BitVec.ofNat 32 (v % 1361129467683753853853498429727072845824 / 256 ^ j % 256) else 0#32 := ath_rng _ _ _ h
theorem redhigh_at (v i j : Nat) (h : j < 40) : ath (redhigh v i) j = if j + 16 < i then BitVec.ofNat 32 (v / 1361129467683753853853498429727072845824 / 256 ^ j % 256) else 0#32 := ath_rng _ _ _ h
theorem ath_repz {k : Nat} (n j : Nat) : ath (List.replicate n (0 : BitVec k)) j = 0 := by
  unfold ath
  rw [List.getD_eq_getElem?_getD, List.getElem?_replicate]
  split <;> rfl
theorem redlow_zero (v : Nat) : redlow v 0 = List.replicate 40 0#32 := by
  refine ext_ath (by simp [redlow_len]) (fun j hj => ?_)
  rw [redlow_len] at hj
  rw [redlow_at _ _ _ hj, if_neg (by omega)]; exact (ath_repz 40 j).symm
theorem redhigh_zero (v : Nat) : redhigh v 0 = List.replicate 40 0#32 := by
  refine ext_ath (by simp [redhigh_len]) (fun j hj => ?_)
  rw [redhigh_len] at hj
  rw [redhigh_at _ _ _ hj, if_neg (by omega)]; exact (ath_repz 40 j).symm
theorem redhigh_stay (v i : Nat) (h : i < 16) : redhigh v (i + 1) = redhigh v i := by
  refine ext_ath (by rw [redhigh_len, redhigh_len]) (fun j hj => ?_)
  rw [redhigh_len] at hj
  rw [redhigh_at _ _ _ hj, redhigh_at _ _ _ hj, if_neg (by omega), if_neg (by omega)]
theorem pow_16 : (256 : Nat) ^ 16 = 340282366920938463463374607431768211456 := rfl
theorem low_digit (v j : Nat) (h : j < 16) : v % 1361129467683753853853498429727072845824 / 256 ^ j % 256 = v / 256 ^ j % 256 := by
  obtain ⟨d, hd⟩ : ∃ d, 16 = j + 1 + d := ⟨15 - j, by omega⟩
  have e : 1361129467683753853853498429727072845824 = 256 ^ j * (256 * (256 ^ d * 4)) := by
    have : 256 ^ j * (256 * (256 ^ d * 4)) = 256 ^ (j + 1 + d) * 4 := by rw [Nat.pow_add, Nat.pow_succ]; ac_rfl
    rw [this, ← hd, pow_16]
  rw [e, Nat.mod_mul, Nat.add_mul_div_left _ _ (Nat.pow_pos (by omega)), Nat.div_eq_of_lt (Nat.mod_lt _ (Nat.pow_pos (by omega))), Nat.zero_add, Nat.mod_mul, Nat.add_mul_mod_self_left, Nat.mod_mod]
theorem low_digit16 (v : Nat) : v % 1361129467683753853853498429727072845824 / 256 ^ 16 % 256 = v / 256 ^ 16 % 256 % 4 := by
  rw [pow_16]; omega
theorem low_digit_over (v j : Nat) (h : 16 < j) : v % 1361129467683753853853498429727072845824 / 256 ^ j % 256 = 0 := by
  rw [Nat.div_eq_of_lt]
  have h1 : (256 : Nat) ^ 17 ≤ 256 ^ j := Nat.pow_le_pow_right (by omega) h
  have h2 : (256 : Nat) ^ 17 = 87112285931760246646623899502532662132736 := rfl
  have h3 := Nat.mod_lt v (show 0 < 1361129467683753853853498429727072845824 by omega)
  omega
theorem set_of_at {xs ys : List (BitVec 32)} {i : Nat} {v : BitVec 32} (hl : xs.length = ys.length) (hi : i < xs.length) (hv : v = ath ys i) (h : ∀ j, j < xs.length → j ≠ i → ath xs j = ath ys j) : xs.set i v = ys := by
  refine ext_ath (by rw [List.length_set, hl]) (fun j hj => ?_)
  rw [List.length_set] at hj
  rw [ath_set _ _ _ _ hi]
  split
  · next e => subst e; exact hv
  · next e => exact h j hj (fun h => e h.symm)
theorem redlow_set (v i : Nat) (hi : i < 16) : (redlow v i).set i (ath (dig 32 40 v) i) = redlow v (i + 1) := by
  refine set_of_at (by rw [redlow_len, redlow_len]) (by rw [redlow_len]; omega) ?_ (fun j hj hne => ?_)
  · rw [redlow_at _ _ _ (by omega), if_pos (by omega), dig_at _ _ _ _ (by omega), low_digit v i hi]
  · rw [redlow_len] at hj
    rw [redlow_at _ _ _ hj, redlow_at _ _ _ hj]
    by_cases h : j < i
    · rw [if_pos h, if_pos (by omega)]
    · rw [if_neg h, if_neg (by omega)]
theorem redlow_set16 (v : Nat) : (redlow v 16).set 16 (ath (dig 32 40 v) 16 &&& 3#32) = redlow v 17 := by
  refine set_of_at (by rw [redlow_len, redlow_len]) (by rw [redlow_len]; omega) ?_ (fun j hj hne => ?_)
  · rw [redlow_at _ _ _ (by omega), if_pos (by omega)]
    apply BitVec.eq_of_toNat_eq
    have e : (ath (dig 32 40 v) 16 &&& 3#32).toNat = v / 256 ^ 16 % 256 % 4 := by
      rw [BitVec.toNat_and, dig_at_nat 32 40 v 16 (by omega) (by omega)]; exact Nat.and_two_pow_sub_one_eq_mod _ 2
    rw [e, BitVec.toNat_ofNat, low_digit16]
    omega
  · rw [redlow_len] at hj
    rw [redlow_at _ _ _ hj, redlow_at _ _ _ hj]
    by_cases h : j < 16
    · rw [if_pos h, if_pos (by omega)]
    · rw [if_neg h, if_neg (by omega)]
theorem redlow_stay (v i : Nat) (hi : 16 < i) : redlow v (i + 1) = redlow v i := by
  refine ext_ath (by rw [redlow_len, redlow_len]) (fun j hj => ?_)
  rw [redlow_len] at hj
  rw [redlow_at _ _ _ hj, redlow_at _ _ _ hj]
  by_cases h : j < i
  · rw [if_pos h, if_pos (by omega)]
  · rw [if_neg h]
    by_cases h2 : j < i + 1
    · rw [if_pos h2, low_digit_over v j (by omega)]
    · rw [if_neg h2]
theorem redlow_all (v : Nat) : redlow v 40 = dig 32 40 (v % 1361129467683753853853498429727072845824) := by
  refine ext_ath (by rw [redlow_len, dig_len]) (fun j hj => ?_)
  rw [redlow_len] at hj
  rw [redlow_at _ _ _ hj, if_pos hj, dig_at _ _ _ _ hj]
theorem high_digit (v j : Nat) : v / 1361129467683753853853498429727072845824 / 256 ^ j % 256 = (v / 256 ^ (16 + j) % 256) / 4 + (v / 256 ^ (16 + j + 1) % 256 * 64) % 256 := by
  have e1 : v / 1361129467683753853853498429727072845824 / 256 ^ j = v / 256 ^ (16 + j) / 4 := by
    rw [Nat.div_div_eq_div_mul, Nat.div_div_eq_div_mul, Nat.pow_add, pow_16]
    congr 1
    rw [show (1361129467683753853853498429727072845824 : Nat) = 340282366920938463463374607431768211456 * 4 from rfl]
    ac_rfl
  have e2 : v / 256 ^ (16 + j + 1) = v / 256 ^ (16 + j) / 256 := by rw [Nat.pow_succ, Nat.div_div_eq_div_mul]
  rw [e1, e2]
  generalize v / 256 ^ (16 + j) = w
  omega
theorem or6 (a b : BitVec 32) (ha : a.toNat < 256) (hb : b.toNat < 256) : ((a >>> 2) ||| (b <<< 6 &&& 255#32)).toNat = a.toNat / 4 + (b.toNat * 64) % 256 := by
  rw [BitVec.toNat_or, BitVec.toNat_and, BitVec.toNat_shiftLeft, BitVec.toNat_ushiftRight, Nat.shiftRight_eq_div_pow]
  have e1 : b.toNat <<< 6 % 2 ^ 32 &&& (255#32).toNat = (b.toNat % 4) <<< 6 := by
    rw [Nat.shiftLeft_eq, Nat.shiftLeft_eq]
    refine (Nat.and_two_pow_sub_one_eq_mod _ 8).trans ?_
    omega
  rw [e1, Nat.or_comm, ← Nat.shiftLeft_add_eq_or_of_lt (by omega : a.toNat / 2 ^ 2 < 2 ^ 6), Nat.shiftLeft_eq]
  omega
theorem redhigh_set (v i : Nat) (h1 : 16 ≤ i) (h2 : i < 40) (x : BitVec 32) (hv : v < 256 ^ 40) (hx : x = if i + 1 < 40 then ath (dig 32 40 v) (i + 1) else 0#32) : (redhigh v i).set (i - 16) ((ath (dig 32 40 v) i >>> 2) ||| (x <<< 6 &&& 255#32)) = redhigh v (i + 1) := by
  refine set_of_at (by rw [redhigh_len, redhigh_len]) (by rw [redhigh_len]; omega) ?_ (fun j hj hne => ?_)
  · have hx2 : x.toNat = v / 256 ^ (i + 1) % 256 := by
      subst hx
      split
      · next h => rw [dig_at_nat 32 40 v _ (by omega) h]
      · next h =>
        have : v / 256 ^ (i + 1) = 0 := Nat.div_eq_of_lt (Nat.lt_of_lt_of_le hv (Nat.pow_le_pow_right (by omega) (by omega)))
        rw [this]; rfl
    have ha := dig_at_nat 32 40 v i (by omega) h2
    rw [redhigh_at _ _ _ (by omega), if_pos (by omega)]
    apply BitVec.eq_of_toNat_eq
    rw [or6 _ _ (by rw [ha]; omega) (by rw [hx2]; omega), ha, hx2, BitVec.toNat_ofNat, high_digit, show 16 + (i - 16) = i by omega]
    omega
  · rw [redhigh_len] at hj
    rw [redhigh_at _ _ _ hj, redhigh_at _ _ _ hj]
    by_cases h : j + 16 < i
    · rw [if_pos h, if_pos (by omega)]
    · rw [if_neg h, if_neg (by omega)]
theorem redhigh_all (v : Nat) (hv : v < 256 ^ 40) : redhigh v 40 = dig 32 40 (v / 1361129467683753853853498429727072845824) := by
  refine ext_ath (by rw [redhigh_len, dig_len]) (fun j hj => ?_)
  rw [redhigh_len] at hj
  rw [redhigh_at _ _ _ hj, dig_at _ _ _ _ hj]
  by_cases h : j + 16 < 40
  · rw [if_pos h]
  · rw [if_neg h, high_digit]
    have h1 : v / 256 ^ (16 + j) = 0 := Nat.div_eq_of_lt (Nat.lt_of_lt_of_le hv (Nat.pow_le_pow_right (by omega) (by omega)))
    have h2 : v / 256 ^ (16 + j + 1) = 0 := Nat.div_eq_of_lt (Nat.lt_of_lt_of_le hv (Nat.pow_le_pow_right (by omega) (by omega)))
    rw [h1, h2]
/-- Low, and five times high, place by place. -/
def lowhigh (v i : Nat) : List (BitVec 32) := (List.range 40).map fun j => if j < i then ath (dig 32 40 (v % 1361129467683753853853498429727072845824)) j + 5#32 * ath (dig 32 40 (v / 1361129467683753853853498429727072845824)) j else ath (dig 32 40 (v % 1361129467683753853853498429727072845824)) j
theorem lowhigh_len (v i : Nat) : (lowhigh v i).length = 40 := by simp [lowhigh]
theorem lowhigh_at (v i j : Nat) (h : j < 40) : ath (lowhigh v i) j = if j < i then ath (dig 32 40 (v % 1361129467683753853853498429727072845824)) j + 5#32 * ath (dig 32 40 (v / 1361129467683753853853498429727072845824)) j else ath (dig 32 40 (v % 1361129467683753853853498429727072845824)) j := ath_rng _ _ _ h
theorem lowhigh_zero (v : Nat) : lowhigh v 0 = dig 32 40 (v % 1361129467683753853853498429727072845824) := by
  refine ext_ath (by rw [lowhigh_len, dig_len]) (fun j hj => ?_)
  rw [lowhigh_len] at hj
  rw [lowhigh_at _ _ _ hj, if_neg (by omega)]
theorem lowhigh_set (v i : Nat) (h : i < 40) : (lowhigh v i).set i (ath (lowhigh v i) i + 5#32 * ath (dig 32 40 (v / 1361129467683753853853498429727072845824)) i) = lowhigh v (i + 1) := by
  refine set_of_at (by rw [lowhigh_len, lowhigh_len]) (by rw [lowhigh_len]; omega) ?_ (fun j hj hne => ?_)
  · rw [lowhigh_at _ _ _ h, lowhigh_at _ _ _ h, if_neg (by omega), if_pos (by omega)]
  · rw [lowhigh_len] at hj
    rw [lowhigh_at _ _ _ hj, lowhigh_at _ _ _ hj]
    by_cases h : j < i
    · rw [if_pos h, if_pos (by omega)]
    · rw [if_neg h, if_neg (by omega)]
theorem lowhigh_atn (v j : Nat) (h : j < 40) : (ath (lowhigh v 40) j).toNat = (ath (dig 32 40 (v % 1361129467683753853853498429727072845824)) j).toNat + 5 * (ath (dig 32 40 (v / 1361129467683753853853498429727072845824)) j).toNat := by
  rw [lowhigh_at _ _ _ h, if_pos h, BitVec.toNat_add, BitVec.toNat_mul]
  have h1 := dig_bd 40 (v % 1361129467683753853853498429727072845824) j
  have h2 := dig_bd 40 (v / 1361129467683753853853498429727072845824) j
  have h3 : (5#32).toNat = 5 := rfl
  rw [h3]; omega
theorem lowhigh_bd (v : Nat) : Bd 2000 (lowhigh v 40) := fun j => by
  by_cases h : j < 40
  · rw [lowhigh_atn v j h]
    have h1 := dig_bd 40 (v % 1361129467683753853853498429727072845824) j
    have h2 := dig_bd 40 (v / 1361129467683753853853498429727072845824) j
    omega
  · rw [ath_over _ _ (by rw [lowhigh_len]; omega)]; decide
/-- Places that are sums have the sum of the numbers. -/
theorem vw_lin {k : Nat} (c : Nat) (xs ys zs : List (BitVec k)) (n : Nat) (hx : xs.length = n) (hy : ys.length = n) (hz : zs.length = n) (h : ∀ j, j < n → (ath zs j).toNat = (ath xs j).toNat + c * (ath ys j).toNat) : ∀ i, i ≤ n → vw (zs.take i) = vw (xs.take i) + c * vw (ys.take i)
  | 0, _ => by simp [vw_nil]
  | i + 1, hi => by
    rw [vw_take_succ _ _ (by omega), vw_take_succ _ _ (by omega), vw_take_succ _ _ (by omega), vw_lin c xs ys zs n hx hy hz h i (by omega), h i (by omega), Nat.mul_add, Nat.mul_add, Nat.mul_left_comm c]
    omega
theorem vw_lin_all {k : Nat} (c : Nat) (xs ys zs : List (BitVec k)) (n : Nat) (hx : xs.length = n) (hy : ys.length = n) (hz : zs.length = n) (h : ∀ j, j < n → (ath zs j).toNat = (ath xs j).toNat + c * (ath ys j).toNat) : vw zs = vw xs + c * vw ys := by
  have := vw_lin c xs ys zs n hx hy hz h n (Nat.le_refl _)
  rwa [List.take_of_length_le (by omega), List.take_of_length_le (by omega), List.take_of_length_le (by omega)] at this
/-- Once less. -/
def red1 (v : Nat) : Nat := v % 1361129467683753853853498429727072845824 + 5 * (v / 1361129467683753853853498429727072845824)
theorem lowhigh_vw (v : Nat) (hv : v < 256 ^ 40) : vw (lowhigh v 40) = red1 v := by
  rw [vw_lin_all 5 (dig 32 40 (v % 1361129467683753853853498429727072845824)) (dig 32 40 (v / 1361129467683753853853498429727072845824)) (lowhigh v 40) 40 (dig_len _ _ _) (dig_len _ _ _) (lowhigh_len _ _) (fun j hj => lowhigh_atn v j hj), vw_dig _ _ _ (by omega), vw_dig _ _ _ (by omega)]
  unfold red1
  rw [Nat.mod_eq_of_lt (a := v % _) (Nat.lt_of_lt_of_le (Nat.mod_lt _ (by omega)) (by decide)), Nat.mod_eq_of_lt (a := v / _) (Nat.lt_of_le_of_lt (Nat.div_le_self _ _) hv)]
def redk (v : Nat) : Nat → Nat
  | 0 => v
  | k + 1 => red1 (redk v k)
theorem redk_zero (v : Nat) : redk v 0 = v := rfl
theorem redk_succ (v k : Nat) : redk v (k + 1) = red1 (redk v k) := rfl
theorem red1_mod (v : Nat) : red1 v % polyP = v % polyP := by
  have e : red1 v + polyP * (v / 1361129467683753853853498429727072845824) = v := by unfold red1; rw [polyP_eq]; omega
  conv => rhs; rw [← e, Nat.add_mul_mod_self_left]
theorem redk_mod (v : Nat) : ∀ k, redk v k % polyP = v % polyP
  | 0 => rfl
  | k + 1 => by rw [redk_succ, red1_mod, redk_mod v k]
theorem red1_le (v : Nat) : red1 v ≤ v := by unfold red1; omega
theorem redk_le (v : Nat) : ∀ k, redk v k ≤ v
  | 0 => Nat.le_refl _
  | k + 1 => Nat.le_trans (red1_le _) (redk_le v k)
theorem red1_lt1 (v : Nat) (h : v < 2 ^ 256) : red1 v < 2 ^ 174 := by
  unfold red1
  have e1 : (2 : Nat) ^ 256 = 115792089237316195423570985008687907853269984665640564039457584007913129639936 := rfl
  have e2 : (2 : Nat) ^ 174 = 23945242826029513411849172299223580994042798784118784 := rfl
  rw [e1] at h
  rw [e2]
  omega
theorem red1_lt2 (v : Nat) (h : v < 2 ^ 174) : red1 v < 1361129467683753853853498429727072845824 + 2 ^ 47 := by
  unfold red1
  have e2 : (2 : Nat) ^ 174 = 23945242826029513411849172299223580994042798784118784 := rfl
  have e3 : (2 : Nat) ^ 47 = 140737488355328 := rfl
  rw [e2] at h
  rw [e3]
  omega
theorem red1_lt3 (v : Nat) (h : v < 1361129467683753853853498429727072845824 + 2 ^ 47) : red1 v < 1361129467683753853853498429727072845824 := by
  unfold red1
  have e3 : (2 : Nat) ^ 47 = 140737488355328 := rfl
  rw [e3] at h
  omega
theorem redk_lt (v : Nat) (h : v < 2 ^ 256) : redk v 4 < 1361129467683753853853498429727072845824 :=
  Nat.lt_of_le_of_lt (red1_le _) (red1_lt3 _ (red1_lt2 _ (red1_lt1 _ h)))
theorem redk_lt40 (v k : Nat) (h : v < 2 ^ 256) : redk v k < 256 ^ 40 := by
  refine Nat.lt_of_le_of_lt (redk_le v k) (Nat.lt_of_lt_of_le h ?_)
  have e : (2 : Nat) ^ 256 = 256 ^ 32 := by
    have := Nat.pow_mul 2 8 32
    exact this
  rw [e]
  exact Nat.pow_le_pow_right (by omega) (by omega)
attribute [irreducible] cy cw redlow redhigh lowhigh red1 redk
end Go.Proofs.Ytemjinkdfjoicaa
