/- Plain laws for the statements of layer 2. No conditions. -/
import Derived.Test.YtmhkmamenfmolaaRef2P
namespace Go.Proofs.Ytmhkmamenfmolaa
set_option linter.unusedVariables false
set_option linter.unusedSimpArgs false
open Bv
theorem padb_zero (n i : Nat) (h : 1 ≤ i) (h2 : i < plen n - 8) : ath (padb n) i = 0#8 := by
  unfold padb
  unfold plen at h2
  obtain ⟨j, rfl⟩ : ∃ j, i = j + 1 := ⟨i - 1, by omega⟩
  have h3 : j < (119 - n % 64) % 64 := by omega
  have e : ath (0x80#8 :: (List.replicate ((119 - n % 64) % 64) 0#8 ++ highb (BitVec.ofNat 64 n * 8#64) 8 8)) (j + 1) = ath (List.replicate ((119 - n % 64) % 64) 0#8 ++ highb (BitVec.ofNat 64 n * 8#64) 8 8) j := by simp [ath]
  rw [e, ath_app_l _ _ _ (by simpa using h3)]
  simp [ath, List.getD_eq_getElem?_getD, h3]
theorem padb_head (n : Nat) : ath (padb n) 0 = 0x80#8 := by unfold padb; rfl
theorem highb_at (v : BitVec 64) (n : Nat) : ∀ k j, j < k → ath (highb v n k) j = (v >>> (8 * (n - 1 - j))).setWidth 8
  | 0, j, h => by omega
  | k + 1, j, h => by
    rw [highb]
    by_cases hj : j < k
    · rw [ath_app_l _ _ _ (by rw [highb_len]; exact hj), highb_at v n k j hj]
    · obtain rfl : j = k := by omega
      rw [ath_app_r _ _ _ (by rw [highb_len]; omega), highb_len, Nat.sub_self]; rfl
theorem padb_tail (n k : Nat) (hn : n < 1073741824) (hk : k < 8) : (ath (padb n) (plen n - 8 + k)).toNat = 8 * n / 2 ^ (8 * (7 - k)) % 256 := by
  unfold padb plen
  have e : ath (0x80#8 :: (List.replicate ((119 - n % 64) % 64) 0#8 ++ highb (BitVec.ofNat 64 n * 8#64) 8 8)) (1 + (119 - n % 64) % 64 + 8 - 8 + k) = ath (highb (BitVec.ofNat 64 n * 8#64) 8 8) k := by
    have h1 : 1 + (119 - n % 64) % 64 + 8 - 8 + k = ((119 - n % 64) % 64 + k) + 1 := by omega
    have h2 : ath (0x80#8 :: (List.replicate ((119 - n % 64) % 64) 0#8 ++ highb (BitVec.ofNat 64 n * 8#64) 8 8)) (((119 - n % 64) % 64 + k) + 1) = ath (List.replicate ((119 - n % 64) % 64) 0#8 ++ highb (BitVec.ofNat 64 n * 8#64) 8 8) ((119 - n % 64) % 64 + k) := by simp [ath]
    rw [h1, h2, ath_app_r _ _ _ (by simp)]
    congr 1
    simp
  rw [e, highb_at _ _ _ _ hk, BitVec.toNat_setWidth, BitVec.toNat_ushiftRight, BitVec.toNat_mul, BitVec.toNat_ofNat, Nat.shiftRight_eq_div_pow]
  have h3 : n % 2 ^ 64 * (8#64).toNat % 2 ^ 64 = 8 * n := by simp; omega
  rw [h3]
theorem bits_step (n k : Nat) (hn : n < 1073741824) (hk : k < 8) : 8 * n / 2 ^ (8 * (8 - k)) * 2 ^ 8 ||| (ath (padb n) (plen n - 8 + k)).toNat = 8 * n / 2 ^ (8 * (8 - (k + 1))) := by
  rw [padb_tail n k hn hk]
  generalize hm : 8 * n = m
  have h1 : 8 * (8 - k) = 8 * (7 - k) + 8 := by omega
  have h2 : 8 * (8 - (k + 1)) = 8 * (7 - k) := by omega
  rw [h1, h2, Nat.pow_add, ← Nat.div_div_eq_div_mul]
  generalize m / 2 ^ (8 * (7 - k)) = q
  have h3 : q % 256 < 2 ^ 8 := by omega
  rw [← Nat.shiftLeft_eq, ← Nat.shiftLeft_add_eq_or_of_lt h3, Nat.shiftLeft_eq]
  omega
theorem bits_le (n k : Nat) : 8 * n / 2 ^ k ≤ 8 * n := Nat.div_le_self _ _
theorem bits_zero (n : Nat) (hn : n < 1073741824) : 8 * n / 2 ^ (8 * (8 - 0)) = 0 := by rw [Nat.div_eq_of_lt]; omega
theorem bits_all (n : Nat) : 8 * n / 2 ^ (8 * (8 - 8)) = 8 * n := by simp
theorem plen_ge (n : Nat) : 9 ≤ plen n := by unfold plen; omega
end Go.Proofs.Ytmhkmamenfmolaa
