/- The reference of layer 6: a piece added, multiplied, made least; and the statements' plain laws. No conditions. -/
import Derived.Test.YtemjinkdfjoicaaPolyR
namespace Go.Proofs.Ytemjinkdfjoicaa
set_option linter.unusedVariables false
set_option linter.unusedSimpArgs false
open Bv Fw
theorem vw_add {k : Nat} (xs : List (BitVec k)) (i : Nat) (v : BitVec k) (h : i < xs.length) (hb : (ath xs i).toNat + v.toNat < 2 ^ k) : vw (xs.set i (ath xs i + v)) = vw xs + 256 ^ i * v.toNat := by
  have h1 := vw_set xs i (ath xs i + v) h
  rw [BitVec.toNat_add, Nat.mod_eq_of_lt hb, Nat.mul_add] at h1
  omega
/-- Places to which, up to i, something was added. -/
def Bi {k : Nat} (i : Nat) (xs : List (BitVec k)) : Prop := ∀ j, (ath xs j).toNat < 256 ∨ (j < i ∧ (ath xs j).toNat < 512)
theorem bi_zero (n v : Nat) : Bi 0 (dig 32 n v) := fun j => .inl (dig_bd n v j)
theorem bi_step {xs : List (BitVec 32)} {i : Nat} (h : Bi i xs) (hi : i < xs.length) (v : BitVec 32) (hv : v.toNat < 256) : Bi (i + 1) (xs.set i (ath xs i + v)) := fun j => by
  rw [ath_set _ _ _ _ hi]
  split
  · next e =>
    subst e
    rcases h i with h1 | h1
    · rw [BitVec.toNat_add]; right; omega
    · omega
  · rcases h j with h1 | h1
    · exact .inl h1
    · exact .inr ⟨by omega, h1.2⟩
theorem bi_lt {xs : List (BitVec 32)} {i : Nat} (h : Bi i xs) : (ath xs i).toNat < 256 := by
  rcases h i with h1 | h1
  · exact h1
  · omega
theorem bi_bd {xs : List (BitVec 32)} {i : Nat} (h : Bi i xs) : Bd 512 xs := fun j => by rcases h j with h1 | h1 <;> omega
/-- A piece, added up to i. -/
def Ad (A : Nat) (b : List (BitVec 8)) (i : Nat) (xs : List (BitVec 32)) : Prop := xs.length = 40 ∧ vw xs = A + vw (b.take i) ∧ Bi i xs
theorem ad_zero (A : Nat) (b : List (BitVec 8)) (hA : A < 256 ^ 40) : Ad A b 0 (dig 32 40 A) := ⟨dig_len _ _ _, by rw [vw_dig _ _ _ (by omega), Nat.mod_eq_of_lt hA, List.take_zero, vw_nil]; rfl, bi_zero _ _⟩
theorem ad_step {A : Nat} {b : List (BitVec 8)} {i : Nat} {xs : List (BitVec 32)} (h : Ad A b i xs) (hi : i < b.length) (h40 : i < 40) (c : BitVec 8) (hc : c = ath b i) : Ad A b (i + 1) (xs.set i (ath xs i + c.setWidth 32)) := by
  obtain ⟨h1, h2, h3⟩ := h
  have hcl := c.isLt
  have hw : (c.setWidth 32).toNat = c.toNat := by rw [BitVec.toNat_setWidth]; omega
  refine ⟨by rw [List.length_set, h1], ?_, bi_step h3 (by omega) _ (by omega)⟩
  have h4 := bi_lt h3
  rw [vw_add xs i _ (by omega) (by omega), h2, hw, vw_take_succ b i hi, hc]
  omega
theorem ad_one {A : Nat} {b : List (BitVec 8)} {n : Nat} {xs : List (BitVec 32)} (h : Ad A b n xs) (hn : b.length = n) (h40 : n < 40) : (xs.set n (ath xs n + 1#32)).length = 40 ∧ vw (xs.set n (ath xs n + 1#32)) = A + pv b ∧ Bd 512 (xs.set n (ath xs n + 1#32)) := by
  obtain ⟨h1, h2, h3⟩ := h
  have e1 : (1#32).toNat = 1 := rfl
  have h4 := bi_lt h3
  refine ⟨by rw [List.length_set, h1], ?_, bi_bd (bi_step h3 (by omega) _ (by omega))⟩
  rw [vw_add xs n _ (by omega) (by omega), h2, e1, List.take_of_length_le (by omega)]
  unfold pv
  rw [hn]; omega
/-- Multiplied, up to place i and, of it, to place k. -/
def Mu (V R i k : Nat) (xs : List (BitVec 32)) : Prop := xs.length = 40 ∧ vw xs = V % 256 ^ i * R + V / 256 ^ i % 256 * (256 ^ i * (R % 256 ^ k)) ∧ Bd ((16 * i + k) * 65025 + 1) xs
theorem mu_zero (V R : Nat) : Mu V R 0 0 (List.replicate 40 0#32) := by
  refine ⟨by simp, ?_, fun j => ?_⟩
  · have : vw (List.replicate 40 0#32) = 0 := vw_rep0 40
    rw [this]; simp [Nat.mod_one]
  · have : ath (List.replicate 40 0#32) j = 0#32 := by
      unfold ath
      rw [List.getD_eq_getElem?_getD, List.getElem?_replicate]
      split <;> rfl
    rw [this]; simp
theorem mu_step {V R i k : Nat} {xs : List (BitVec 32)} (h : Mu V R i k xs) (hik : i + k < 40) (hi : i ≤ 18) (hk : k < 16) (x y : BitVec 32) (hx : x.toNat = V / 256 ^ i % 256) (hy : y.toNat = R / 256 ^ k % 256) : Mu V R i (k + 1) (xs.set (i + k) (ath xs (i + k) + x * y)) := by
  obtain ⟨h1, h2, h3⟩ := h
  have hxy : (x * y).toNat = x.toNat * y.toNat := by
    rw [BitVec.toNat_mul, Nat.mod_eq_of_lt]
    exact Nat.lt_of_le_of_lt (Nat.mul_le_mul (show x.toNat ≤ 255 by omega) (show y.toNat ≤ 255 by omega)) (by decide)
  have hle : x.toNat * y.toNat ≤ 65025 := Nat.mul_le_mul (show x.toNat ≤ 255 by omega) (show y.toNat ≤ 255 by omega)
  have h4 := h3 (i + k)
  have e32 : (2 : Nat) ^ 32 = 4294967296 := rfl
  refine ⟨by rw [List.length_set, h1], ?_, fun j => ?_⟩
  · rw [vw_add xs (i + k) _ (by omega) (by rw [hxy]; omega), h2, hxy, hx, hy, mod_pow_succ R k, Nat.pow_add, Nat.mul_add, Nat.mul_add]
    have e : 256 ^ i * 256 ^ k * (V / 256 ^ i % 256 * (R / 256 ^ k % 256)) = V / 256 ^ i % 256 * (256 ^ i * (256 ^ k * (R / 256 ^ k % 256))) := by ac_rfl
    rw [e]; omega
  · rw [ath_set _ _ _ _ (by omega)]
    split
    · next e => subst e; rw [BitVec.toNat_add, hxy]; omega
    · have h5 := h3 j; refine Nat.lt_of_lt_of_le h5 ?_; clear h5 hxy hle hx hy h2 h4 h3; omega
theorem mu_row {V R i : Nat} {xs : List (BitVec 32)} (h : Mu V R i 16 xs) (hR : R < 256 ^ 16) : Mu V R (i + 1) 0 xs := by
  obtain ⟨h1, h2, h3⟩ := h
  refine ⟨h1, ?_, fun j => by have := h3 j; omega⟩
  rw [h2, mod_pow_succ V i, Nat.mod_eq_of_lt hR]
  simp only [Nat.pow_zero, Nat.mod_one, Nat.mul_zero, Nat.add_zero]
  rw [Nat.add_mul]
  have e : 256 ^ i * (V / 256 ^ i % 256) * R = V / 256 ^ i % 256 * (256 ^ i * R) := by ac_rfl
  rw [e]
theorem mu_all {V R i : Nat} {xs : List (BitVec 32)} (h : Mu V R i 0 xs) (hi : i = 18) (hV : V < 256 ^ 18) : vw xs = V * R ∧ Bd 30000000 xs := by
  obtain ⟨h1, h2, h3⟩ := h
  refine ⟨?_, fun j => by have := h3 j; omega⟩
  rw [← hi] at hV
  rw [h2, Nat.mod_eq_of_lt hV, Nat.pow_zero, Nat.mod_one, Nat.mul_zero, Nat.mul_zero, Nat.add_zero]
theorem clampb_dig (key : List (BitVec 8)) (k : Nat) (h : k < 16) : (ath (clampb key) k).toNat = pr key / 256 ^ k % 256 := by
  have e := dig_vw (clampb key) 16 (clampb_len key)
  have h1 := dig_at_nat 8 16 (vw (clampb key)) k (by omega) h
  rw [e] at h1
  unfold pr; exact h1
theorem pr_lt16 (key : List (BitVec 8)) : pr key < 256 ^ 16 := Nat.lt_of_lt_of_le (pr_lt key) (by decide)
/-- Made least. -/
theorem dig_add16 (x y : Nat) (hx : x < 256 ^ 16) (j : Nat) : (x + 256 ^ 16 * y) / 256 ^ j % 256 = if j < 16 then x / 256 ^ j % 256 else y / 256 ^ (j - 16) % 256 := by
  split
  · next h =>
    obtain ⟨d, hd⟩ : ∃ d, 16 = j + 1 + d := ⟨15 - j, by omega⟩
    rw [hd, Nat.pow_add, Nat.pow_succ, Nat.mul_assoc (256 ^ j), Nat.mul_assoc (256 ^ j), Nat.add_mul_div_left _ _ (Nat.pow_pos (by omega)), Nat.mul_assoc, Nat.add_mul_mod_self_left]
  · next h =>
    obtain ⟨d, rfl⟩ : ∃ d, j = 16 + d := ⟨j - 16, by omega⟩
    rw [Nat.pow_add, ← Nat.div_div_eq_div_mul, Nat.add_mul_div_left _ _ (Nat.pow_pos (by omega)), Nat.div_eq_of_lt hx, Nat.zero_add, Nat.add_sub_cancel_left]
theorem least_lo (A : Nat) (h : (ath (dig 32 40 (A + 5)) 16).toNat < 4) (hA : A < 1361129467683753853853498429727072845824) : A = A % polyP := by
  rw [dig_at_nat _ _ _ _ (by omega) (by omega), pow_16] at h
  rw [polyP_eq]
  omega
theorem least_hi (A : Nat) (h : ¬ (ath (dig 32 40 (A + 5)) 16).toNat < 4) (hA : A < 1361129467683753853853498429727072845824) : (dig 32 40 (A + 5)).set 16 (ath (dig 32 40 (A + 5)) 16 - 4#32) = dig 32 40 (A % polyP) := by
  rw [dig_at_nat _ _ _ _ (by omega) (by omega), pow_16] at h
  have e1 : A + 5 = (A % polyP) + 256 ^ 16 * 4 := by rw [polyP_eq, pow_16]; omega
  have e2 : A % polyP < 256 ^ 16 := by rw [polyP_eq, pow_16]; omega
  have e3 : A % polyP = A % polyP + 256 ^ 16 * 0 := by omega
  have h16 : ath (dig 32 40 (A + 5)) 16 = 4#32 := by
    rw [dig_at _ _ _ _ (by omega), e1, dig_add16 _ _ e2]; rfl
  refine set_of_at (by rw [dig_len, dig_len]) (by rw [dig_len]; omega) ?_ (fun j hj hne => ?_)
  · rw [h16, dig_at _ _ _ _ (by omega)]
    conv => rhs; rw [e3, dig_add16 _ _ e2]
    rw [if_neg (by omega)]; simp
  · rw [dig_len] at hj
    rw [dig_at _ _ _ _ hj, dig_at _ _ _ _ hj, e1, dig_add16 _ _ e2]
    conv => rhs; rw [e3, dig_add16 _ _ e2]
    split
    · rfl
    · obtain ⟨d, hd⟩ : ∃ d, j - 16 = d + 1 := ⟨j - 17, by omega⟩
      rw [hd, Nat.pow_succ, Nat.mul_comm, ← Nat.div_div_eq_div_mul]; simp
/-- Bytes, the first j of them, and zeros behind. -/
def prez (xs : List (BitVec 8)) (n j : Nat) : List (BitVec 8) := xs.take j ++ List.replicate (n - j) 0#8
theorem prez_zero (xs : List (BitVec 8)) (n : Nat) : List.replicate n 0#8 = prez xs n 0 := by simp [prez]
theorem prez_all (xs : List (BitVec 8)) (n : Nat) (h : xs.length = n) : prez xs n n = xs := by simp [prez, ← h]
theorem prez_len (xs : List (BitVec 8)) (n j : Nat) (h : xs.length = n) (hj : j ≤ n) : (prez xs n j).length = n := by simp [prez]; omega
theorem prez_set (xs : List (BitVec 8)) (n j : Nat) (h : xs.length = n) (hj : j < n) (v : BitVec 8) (hv : v = ath xs j) : (prez xs n j).set j v = prez xs n (j + 1) := by
  unfold prez
  have hl : (xs.take j).length = j := by rw [List.length_take]; omega
  rw [List.set_append_right _ _ (by omega), hl, Nat.sub_self, show n - j = (n - (j + 1)) + 1 by omega, List.replicate_succ, List.set_cons_zero, hv, take_succ_ath xs j (by omega)]
  simp
theorem dig_byte (v j : Nat) (h : j < 16) : (ath (dig 32 40 v) j).setWidth 8 = ath (dig 8 16 v) j := by
  rw [dig_at _ _ _ _ (by omega), dig_at _ _ _ _ h]
  apply BitVec.eq_of_toNat_eq
  rw [BitVec.toNat_setWidth, BitVec.toNat_ofNat, BitVec.toNat_ofNat]
  omega
theorem ptag_of (key t : List (BitVec 8)) (A : Nat) (hA : A = pacc (pr key) t ((t.length + 15) / 16)) : dig 8 16 (A + ps key) = ptag key t := by rw [ptag_def, hA]
/-- One piece more, in the reference. -/
theorem ref_piece (V R A : Nat) (hA : A = redk (V * R) 4) (hV : V < 2 ^ 131) (hR : R < 2 ^ 124) : A < 1361129467683753853853498429727072845824 ∧ A % polyP = V * R % polyP := by
  subst hA
  refine ⟨redk_lt _ ?_, redk_mod _ _⟩
  have h : V * R < 2 ^ 131 * 2 ^ 124 := Nat.mul_lt_mul'' hV hR
  exact Nat.lt_trans h (by decide)
theorem pacc_next (r : Nat) (t : List (BitVec 8)) (k A V : Nat) (hA : A % polyP = pacc r t k) (hV : V = A + pv (pblk t k)) : V * r % polyP = pacc r t (k + 1) := by
  rw [pacc_succ, ← hA, hV, Nat.mul_mod]
  conv => rhs; rw [Nat.mul_mod, Nat.add_mod, Nat.mod_mod, ← Nat.add_mod]
attribute [irreducible] Ad Mu prez
end Go.Proofs.Ytemjinkdfjoicaa
