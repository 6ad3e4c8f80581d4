/- What the reference of layer 2 does in other words. No conditions. -/
import Derived.Test.YtmhkmamenfmolaaShaP
namespace Go.Proofs.Ytmhkmamenfmolaa
set_option linter.unusedVariables false
set_option linter.unusedSimpArgs false
open Bv
theorem high4_32 (ys : List (BitVec 8)) : (high ys 4).setWidth 32 = ((ath ys 0).setWidth 32 <<< 24 ||| (ath ys 1).setWidth 32 <<< 16) ||| (ath ys 2).setWidth 32 <<< 8 ||| (ath ys 3).setWidth 32 := by
  have e : high ys 4 = ((((0#64 <<< 8 ||| (ath ys 0).setWidth 64) <<< 8 ||| (ath ys 1).setWidth 64) <<< 8 ||| (ath ys 2).setWidth 64) <<< 8 ||| (ath ys 3).setWidth 64) := rfl
  rw [e]
  generalize ath ys 0 = a
  generalize ath ys 1 = b
  generalize ath ys 2 = c
  generalize ath ys 3 = d
  ext i hi
  simp only [BitVec.getElem_setWidth, BitVec.getElem_or, BitVec.getElem_shiftLeft, BitVec.getLsbD_or, BitVec.getLsbD_shiftLeft, BitVec.getLsbD_setWidth]
  rcases (by omega : i = 0 ∨ i = 1 ∨ i = 2 ∨ i = 3 ∨ i = 4 ∨ i = 5 ∨ i = 6 ∨ i = 7 ∨ i = 8 ∨ i = 9 ∨ i = 10 ∨ i = 11 ∨ i = 12 ∨ i = 13 ∨ i = 14 ∨ i = 15 ∨ i = 16 ∨ i = 17 ∨ i = 18 ∨ i = 19 ∨ i = 20 ∨ i = 21 ∨ i = 22 ∨ i = 23 ∨ i = 24 ∨ i = 25 ∨ i = 26 ∨ i = 27 ∨ i = 28 ∨ i = 29 ∨ i = 30 ∨ i = 31) with rfl | rfl | rfl | rfl | rfl | rfl | rfl | rfl | rfl | rfl | rfl | rfl | rfl | rfl | rfl | rfl | rfl | rfl | rfl | rfl | rfl | rfl | rfl | rfl | rfl | rfl | rfl | rfl | rfl | rfl | rfl | rfl <;> simp
theorem rsch_lo (m : List (BitVec 8)) (k j : Nat) (h : j < 16) : (fil (schw (List.take 64 (List.drop (64 * k) m)) j) 64).set j (((ath m (64 * k + 4 * j)).setWidth 32 <<< 24 ||| (ath m (64 * k + 4 * j + 1)).setWidth 32 <<< 16) ||| (ath m (64 * k + 4 * j + 2)).setWidth 32 <<< 8 ||| (ath m (64 * k + 4 * j + 3)).setWidth 32) = fil (schw (List.take 64 (List.drop (64 * k) m)) (j + 1)) 64 := by
  rw [← schw_lo _ j h, high4_32]
  simp only [ath_drop]
  rw [ath_take _ _ _ (by omega), ath_take _ _ _ (by omega), ath_take _ _ _ (by omega), ath_take _ _ _ (by omega)]
  simp only [ath_drop, Nat.add_assoc, Nat.add_zero]
theorem shaout_at (s : List (BitVec 32)) (k : Nat) : ∀ j, j < 4 * k → ath (shaout s k) j = ((ath s (j / 4)) >>> (24 - 8 * (j % 4))).setWidth 8 := by
  induction k with
  | zero => intro j hj; omega
  | succ k ih =>
    intro j hj
    rw [shaout_succ]
    by_cases h : j < 4 * k
    · rw [ath_app_l _ _ _ (by rw [shaout_len]; exact h), ih j h]
    · rw [ath_app_r _ _ _ (by rw [shaout_len]; omega), shaout_len]
      obtain ⟨i, hi, rfl⟩ : ∃ i, i < 4 ∧ j = 4 * k + i := ⟨j - 4 * k, by omega, by omega⟩
      rw [show (4 * k + i) / 4 = k by omega, show (4 * k + i) % 4 = i by omega, show 4 * k + i - 4 * k = i by omega]
      have hb : ath (highb ((ath s k).setWidth 64) 4 4) i = (((ath s k).setWidth 64) >>> (8 * (3 - i))).setWidth 8 := by
        rcases (by omega : i = 0 ∨ i = 1 ∨ i = 2 ∨ i = 3) with rfl | rfl | rfl | rfl <;> rfl
      rw [hb, show 8 * (3 - i) = 24 - 8 * i by omega]
      generalize ath s k = x
      ext q hq
      simp [BitVec.getLsbD_setWidth]
      omega
/-- A list's first bytes, and zeros behind them. -/
def pre0 (xs : List (BitVec 8)) (n j : Nat) : List (BitVec 8) := xs.take j ++ List.replicate (n - j) 0#8
theorem pre0_zero (xs : List (BitVec 8)) (n : Nat) : List.replicate n 0#8 = pre0 xs n 0 := by simp [pre0]
theorem pre0_all (xs : List (BitVec 8)) (n : Nat) (h : xs.length = n) : pre0 xs n n = xs := by simp [pre0, ← h]
theorem pre0_len (xs : List (BitVec 8)) (n j : Nat) (h : xs.length = n) (hj : j ≤ n) : (pre0 xs n j).length = n := by simp [pre0]; omega
theorem pre0_set (xs : List (BitVec 8)) (n j : Nat) (h : xs.length = n) (hj : j < n) (v : BitVec 8) (hv : v = ath xs j) : (pre0 xs n j).set j v = pre0 xs n (j + 1) := by
  unfold pre0
  have hl : (xs.take j).length = j := by rw [List.length_take]; omega
  have ht : xs.take (j + 1) = xs.take j ++ [ath xs j] := by
    rw [List.take_add_one, List.getElem?_eq_getElem (by omega), ath_get xs j (by omega)]; rfl
  rw [List.set_append_right _ _ (by omega), hl, Nat.sub_self, show n - j = (n - (j + 1)) + 1 by omega, List.replicate_succ, List.set_cons_zero, hv, ht]
  simp
theorem sumout_set (s : List (BitVec 32)) (o : List (BitVec 8)) (ho : shaout s 8 = o) (hl : o.length = 32) (j : Nat) (hj : j < 32) : (pre0 o 32 j).set j (((ath s (j / 4)) >>> (24 - 8 * (j % 4))).setWidth 8) = pre0 o 32 (j + 1) := by
  refine pre0_set _ _ _ hl hj _ ?_
  subst ho
  exact (shaout_at s 8 j (by omega)).symm
theorem rnd_ref (s ws : List (BitVec 32)) (k : Nat) (a : List (BitVec 32)) (ha : rounds s ws k = a) : rounds s ws (k + 1) = rnd a (ath shaK k) (ath ws k) := by rw [rounds_succ, ha]
end Go.Proofs.Ytmhkmamenfmolaa
