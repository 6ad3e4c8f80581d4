/- Poly1305 in plain words: numbers of bytes, pieces, the sum; limbs of 64 bits and places of a byte. No conditions. -/
import Derived.Test.YtemjinkdfjoicaaGOct
namespace Go.Proofs.Ytemjinkdfjoicaa
set_option linter.unusedVariables false
set_option linter.unusedSimpArgs false
open Bv Fw
theorem ath_nil {k : Nat} (j : Nat) : ath ([] : List (BitVec k)) j = 0 := by simp [ath]
theorem ath_cons0 {k : Nat} (x : BitVec k) (xs : List (BitVec k)) : ath (x :: xs) 0 = x := rfl
theorem ath_consS {k : Nat} (x : BitVec k) (xs : List (BitVec k)) (j : Nat) : ath (x :: xs) (j + 1) = ath xs j := by simp [ath]
theorem ath_over {k : Nat} (xs : List (BitVec k)) (j : Nat) (h : xs.length ≤ j) : ath xs j = 0 := by simp [ath, List.getD_eq_getElem?_getD, h]
theorem ath_rng {k : Nat} (f : Nat → BitVec k) (n j : Nat) (h : j < n) : ath ((List.range n).map f) j = f j := by
  rw [ath_get _ _ (by simpa using h)]; simp
theorem take_succ_ath {k : Nat} (xs : List (BitVec k)) (j : Nat) (h : j < xs.length) : xs.take (j + 1) = xs.take j ++ [ath xs j] := by
  rw [List.take_add_one, List.getElem?_eq_getElem h, ath_get xs j h]; rfl
/-- The number of places of a byte each, the lowest first. -/
def vw {k : Nat} : List (BitVec k) → Nat
  | [] => 0
  | x :: xs => x.toNat + 256 * vw xs
theorem vw_nil {k : Nat} : vw ([] : List (BitVec k)) = 0 := rfl
theorem vw_cons {k : Nat} (x : BitVec k) (xs : List (BitVec k)) : vw (x :: xs) = x.toNat + 256 * vw xs := rfl
theorem vw_app {k : Nat} : ∀ (xs ys : List (BitVec k)), vw (xs ++ ys) = vw xs + 256 ^ xs.length * vw ys
  | [], ys => by simp [vw]
  | x :: xs, ys => by
    rw [List.cons_append, vw, vw, vw_app xs ys, List.length_cons, Nat.pow_succ, Nat.mul_add, Nat.mul_comm (256 ^ xs.length) 256, Nat.mul_assoc]
    omega
theorem vw_take_succ {k : Nat} (xs : List (BitVec k)) (j : Nat) (h : j < xs.length) : vw (xs.take (j + 1)) = vw (xs.take j) + 256 ^ j * (ath xs j).toNat := by
  rw [take_succ_ath xs j h, vw_app, List.length_take, Nat.min_eq_left (by omega), vw_cons, vw_nil]; simp
theorem vw_lt : ∀ (xs : List (BitVec 8)), vw xs < 256 ^ xs.length
  | [] => by simp [vw]
  | x :: xs => by
    have h1 := vw_lt xs
    have h2 := x.isLt
    rw [vw, List.length_cons, Nat.pow_succ]
    omega
theorem vw_set {k : Nat} : ∀ (xs : List (BitVec k)) (j : Nat) (v : BitVec k), j < xs.length → vw (xs.set j v) + 256 ^ j * (ath xs j).toNat = vw xs + 256 ^ j * v.toNat
  | [], j, v, h => by simp at h
  | x :: xs, 0, v, h => by simp [vw, ath_cons0]; omega
  | x :: xs, j + 1, v, h => by
    have h1 := vw_set xs j v (by simpa using h)
    rw [List.set_cons_succ, vw, vw, ath_consS, Nat.pow_succ, Nat.mul_comm (256 ^ j) 256, Nat.mul_assoc, Nat.mul_assoc]
    omega
theorem vw_rep0 {k : Nat} : ∀ n, vw (List.replicate n (0 : BitVec k)) = 0
  | 0 => rfl
  | n + 1 => by rw [List.replicate_succ, vw, vw_rep0 n]; simp
/-- The first n places of a number. -/
def dig (k n v : Nat) : List (BitVec k) := (List.range n).map fun i => BitVec.ofNat k (v / 256 ^ i % 256)
theorem dig_len (k n v : Nat) : (dig k n v).length = n := by simp [dig]
theorem dig_at (k n v j : Nat) (h : j < n) : ath (dig k n v) j = BitVec.ofNat k (v / 256 ^ j % 256) := ath_rng _ _ _ h
theorem dig_at_nat (k n v j : Nat) (hk : 8 ≤ k) (h : j < n) : (ath (dig k n v) j).toNat = v / 256 ^ j % 256 := by
  rw [dig_at k n v j h, BitVec.toNat_ofNat]
  refine Nat.mod_eq_of_lt (Nat.lt_of_lt_of_le (Nat.mod_lt _ (by omega)) ?_)
  exact Nat.pow_le_pow_right (n := 2) (by omega) hk
theorem mod_pow_succ (v j : Nat) : v % 256 ^ (j + 1) = v % 256 ^ j + 256 ^ j * (v / 256 ^ j % 256) := by
  rw [Nat.pow_succ, Nat.mod_mul]
theorem vw_dig_take (k n v : Nat) (hk : 8 ≤ k) : ∀ j, j ≤ n → vw ((dig k n v).take j) = v % 256 ^ j
  | 0, _ => by simp [vw, Nat.mod_one]
  | j + 1, h => by
    rw [vw_take_succ _ _ (by rw [dig_len]; omega), vw_dig_take k n v hk j (by omega), dig_at_nat k n v j hk (by omega), mod_pow_succ]
theorem vw_dig (k n v : Nat) (hk : 8 ≤ k) : vw (dig k n v) = v % 256 ^ n := by
  have := vw_dig_take k n v hk n (Nat.le_refl _)
  rwa [List.take_of_length_le (by rw [dig_len]; omega)] at this
/-- Bytes are the places of their number. -/
theorem dig_vw : ∀ (xs : List (BitVec 8)) (n : Nat), xs.length = n → dig 8 n (vw xs) = xs := by
  intro xs n hn
  refine ext_ath (by rw [dig_len, hn]) (fun j hj => ?_)
  rw [dig_len] at hj
  apply BitVec.eq_of_toNat_eq
  rw [dig_at_nat 8 n _ j (by omega) hj]
  have hp : 0 < 256 ^ j := Nat.pow_pos (by omega)
  have h1 : vw xs = vw (xs.take j) + 256 ^ j * ((ath xs j).toNat + 256 * vw (xs.drop (j + 1))) := by
    have e : xs = xs.take j ++ (ath xs j :: xs.drop (j + 1)) := by
      rw [ath_get xs j (by omega), ← List.drop_eq_getElem_cons (by omega), List.take_append_drop]
    rw [← vw_cons]
    conv => lhs; rw [e, vw_app, List.length_take, Nat.min_eq_left (by omega)]
  have h2 : vw (xs.take j) < 256 ^ j := by
    have := vw_lt (xs.take j)
    rwa [List.length_take, Nat.min_eq_left (by omega)] at this
  rw [h1, Nat.add_mul_div_left _ _ hp, Nat.div_eq_of_lt h2]
  have := (ath xs j).isLt
  omega
theorem dig_mod (k n v m : Nat) (h : n ≤ m) : dig k n (v % 256 ^ m) = dig k n v := by
  refine ext_ath (by rw [dig_len, dig_len]) (fun j hj => ?_)
  rw [dig_len] at hj
  rw [dig_at _ _ _ _ hj, dig_at _ _ _ _ hj]
  congr 1
  obtain ⟨d, rfl⟩ : ∃ d, m = j + 1 + d := ⟨m - j - 1, by omega⟩
  rw [Nat.pow_add, Nat.mod_mul, Nat.pow_succ]
  have hp : 0 < 256 ^ j := Nat.pow_pos (by omega)
  generalize v / (256 ^ j * 256) % 256 ^ d = q
  rw [Nat.mul_assoc, Nat.add_mul_div_left _ _ hp, Nat.mod_mul, Nat.add_mul_div_left _ _ hp, Nat.div_eq_of_lt (Nat.mod_lt _ hp)]
  omega
theorem dig_app (n m a b : Nat) (ha : a < 256 ^ n) : dig 8 n a ++ dig 8 m b = dig 8 (n + m) (a + 256 ^ n * b) := by
  have hl : (dig 8 n a ++ dig 8 m b).length = n + m := by simp [dig_len]
  rw [← dig_vw _ _ hl, vw_app, vw_dig _ _ _ (by omega), vw_dig _ _ _ (by omega), dig_len, Nat.mod_eq_of_lt ha]
  rw [← dig_mod 8 (n + m) (a + 256 ^ n * b) (n + m) (Nat.le_refl _), ← dig_mod 8 (n + m) (a + 256 ^ n * (b % 256 ^ m)) (n + m) (Nat.le_refl _)]
  congr 1
  rw [Nat.pow_add, Nat.mod_mul, Nat.mod_mul]
  have hp : 0 < 256 ^ n := Nat.pow_pos (by omega)
  rw [Nat.add_mul_mod_self_left, Nat.add_mul_mod_self_left, Nat.add_mul_div_left _ _ hp, Nat.add_mul_div_left _ _ hp, Nat.div_eq_of_lt ha]
  simp
theorem lowb_dig (v : BitVec 64) : ∀ k, k ≤ 8 → lowb v k = dig 8 k v.toNat := by
  intro k hk
  have hat : ∀ n j, j < n → ath (lowb v n) j = (v >>> (8 * j)).setWidth 8 := by
    intro n
    induction n with
    | zero => intro j hj; omega
    | succ n ih =>
      intro j hj
      rw [lowb]
      by_cases h : j < n
      · rw [ath_app_l _ _ _ (by rw [lowb_len]; exact h), ih j h]
      · obtain rfl : j = n := by omega
        rw [ath_app_r _ _ _ (by rw [lowb_len]; omega), lowb_len, Nat.sub_self]; rfl
  refine ext_ath (by rw [lowb_len, dig_len]) (fun j hj => ?_)
  rw [lowb_len] at hj
  rw [hat k j hj, dig_at _ _ _ _ hj]
  apply BitVec.eq_of_toNat_eq
  rw [BitVec.toNat_setWidth, BitVec.toNat_ushiftRight, BitVec.toNat_ofNat, Nat.shiftRight_eq_div_pow, Nat.pow_mul]
  simp
theorem low_toNat (xs : List (BitVec 8)) : ∀ k, k ≤ 8 → k ≤ xs.length → (low xs k).toNat = vw (xs.take k)
  | 0, _, _ => by simp [low, vw]
  | k + 1, h8, hl => by
    have ih := low_toNat xs k (by omega) (by omega)
    have hlt : vw (xs.take k) < 2 ^ (8 * k) := by
      have := vw_lt (xs.take k)
      rw [List.length_take, Nat.min_eq_left (by omega)] at this
      rw [Nat.pow_mul]; exact this
    have hb := (ath xs k).isLt
    have hpp : (2 : Nat) ^ (8 * k) * 256 ≤ 2 ^ 64 := by
      rw [show (256 : Nat) = 2 ^ 8 from rfl, ← Nat.pow_add]
      exact Nat.pow_le_pow_right (by omega) (by omega)
    have hs : (ath xs k).toNat <<< (8 * k) < 2 ^ 64 := by
      rw [Nat.shiftLeft_eq]
      refine Nat.lt_of_lt_of_le ?_ hpp
      rw [Nat.mul_comm]
      exact Nat.mul_lt_mul_of_pos_left hb (Nat.pow_pos (by omega))
    have hw : ((ath xs k).setWidth 64).toNat = (ath xs k).toNat := by rw [BitVec.toNat_setWidth]; exact Nat.mod_eq_of_lt (by omega)
    rw [low, BitVec.toNat_or, BitVec.toNat_shiftLeft, hw, Nat.mod_eq_of_lt hs, ih, vw_take_succ xs k (by omega), Nat.or_comm, ← Nat.shiftLeft_add_eq_or_of_lt hlt, Nat.shiftLeft_eq, Nat.pow_mul]
    have : (2 : Nat) ^ 8 = 256 := rfl
    rw [this, Nat.mul_comm]; omega
theorem vw_take16 (xs : List (BitVec 8)) (n : Nat) (h : 16 ≤ xs.length) : vw (xs.take 16) = (low xs 8).toNat + 2 ^ 64 * (low (xs.drop 8) 8).toNat := by
  rw [low_toNat xs 8 (by omega) (by omega), low_toNat (xs.drop 8) 8 (by omega) (by simp; omega)]
  have e : xs.take 16 = xs.take 8 ++ (xs.drop 8).take 8 := by rw [← List.take_add]
  rw [e, vw_app, List.length_take, Nat.min_eq_left (by omega)]
/-! The tag. -/
def polyP : Nat := 1361129467683753853853498429727072845819
theorem polyP_eq : polyP = 2 ^ 130 - 5 := rfl
/-- A key's first half without the bits that may not be. -/
def clampb (key : List (BitVec 8)) : List (BitVec 8) := (List.range 16).map fun i => if i % 4 = 3 then ath key i &&& 15#8 else if i = 4 ∨ i = 8 ∨ i = 12 then ath key i &&& 252#8 else ath key i
theorem clampb_len (key : List (BitVec 8)) : (clampb key).length = 16 := by simp [clampb]
theorem clampb_at (key : List (BitVec 8)) (j : Nat) (h : j < 16) : ath (clampb key) j = if j % 4 = 3 then ath key j &&& 15#8 else if j = 4 ∨ j = 8 ∨ j = 12 then ath key j &&& 252#8 else ath key j := ath_rng _ _ _ h
def pr (key : List (BitVec 8)) : Nat := vw (clampb key)
def ps (key : List (BitVec 8)) : Nat := vw ((key.drop 16).take 16)
/-- The number of a piece, with a byte 1 behind. -/
def pv (b : List (BitVec 8)) : Nat := vw b + 256 ^ b.length
def pblk (t : List (BitVec 8)) (k : Nat) : List (BitVec 8) := (t.drop (16 * k)).take 16
/-- The sum behind k pieces. -/
def pacc (r : Nat) (t : List (BitVec 8)) : Nat → Nat
  | 0 => 0
  | k + 1 => (pacc r t k + pv (pblk t k)) * r % polyP
theorem pacc_zero (r : Nat) (t : List (BitVec 8)) : pacc r t 0 = 0 := rfl
theorem pacc_succ (r : Nat) (t : List (BitVec 8)) (k : Nat) : pacc r t (k + 1) = (pacc r t k + pv (pblk t k)) * r % polyP := rfl
theorem pacc_lt (r : Nat) (t : List (BitVec 8)) : ∀ k, pacc r t k < polyP
  | 0 => by rw [pacc]; decide
  | k + 1 => Nat.mod_lt _ (by decide)
def ptag (key t : List (BitVec 8)) : List (BitVec 8) := dig 8 16 (pacc (pr key) t ((t.length + 15) / 16) + ps key)
theorem ptag_def (key t : List (BitVec 8)) : ptag key t = dig 8 16 (pacc (pr key) t ((t.length + 15) / 16) + ps key) := rfl
theorem ptag_len (key t : List (BitVec 8)) : (ptag key t).length = 16 := dig_len _ _ _
theorem and_le_l (a b : BitVec 8) : (a &&& b).toNat ≤ b.toNat := by rw [BitVec.toNat_and]; exact Nat.and_le_right
theorem pr_lt (key : List (BitVec 8)) : pr key < 2 ^ 124 := by
  unfold pr
  have h1 : clampb key = (clampb key).take 15 ++ [ath (clampb key) 15] := by
    rw [← take_succ_ath _ _ (by rw [clampb_len]; omega), List.take_of_length_le (by rw [clampb_len]; omega)]
  have h2 := vw_lt ((clampb key).take 15)
  rw [List.length_take, clampb_len] at h2
  rw [h1, vw_app, List.length_take, clampb_len, vw_cons, vw_nil, clampb_at _ _ (by omega), if_pos (by omega)]
  have h3 := and_le_l (ath key 15) 15#8
  have h4 : (15#8).toNat = 15 := rfl
  generalize (ath key 15 &&& 15#8).toNat = z at *
  generalize vw (List.take 15 (clampb key)) = y at *
  have h5 : min 15 16 = 15 := rfl
  rw [h5] at h2 ⊢
  have h6 : (256 : Nat) ^ 15 = 1329227995784915872903807060280344576 := rfl
  have h7 : (2 : Nat) ^ 124 = 21267647932558653966460912964485513216 := rfl
  rw [h6] at *
  rw [h7]
  omega
theorem ps_lt (key : List (BitVec 8)) : ps key < 2 ^ 128 := by
  unfold ps
  have h := vw_lt ((key.drop 16).take 16)
  have h1 : ((key.drop 16).take 16).length ≤ 16 := by simp; omega
  refine Nat.lt_of_lt_of_le h ?_
  exact Nat.le_trans (Nat.pow_le_pow_right (by omega) h1) (by decide)
theorem pblk_len_le (t : List (BitVec 8)) (k : Nat) : (pblk t k).length ≤ 16 := by unfold pblk; simp; omega
theorem pv_lt (b : List (BitVec 8)) (h : b.length ≤ 16) : pv b < 2 ^ 129 := by
  unfold pv
  have h1 := vw_lt b
  have h2 : (256 : Nat) ^ b.length ≤ 256 ^ 16 := Nat.pow_le_pow_right (by omega) h
  have h3 : (2 : Nat) ^ 129 = 2 * 256 ^ 16 := rfl
  rw [h3]; omega
attribute [irreducible] vw dig clampb pr ps pv pblk pacc ptag polyP
end Go.Proofs.Ytemjinkdfjoicaa
