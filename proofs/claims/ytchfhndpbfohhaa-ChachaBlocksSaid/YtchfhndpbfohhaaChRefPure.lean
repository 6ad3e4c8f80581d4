/- The reference's block is the block: plain laws. No conditions. -/
import Derived.Test.YtchfhndpbfohhaaChPure
import Derived.Test.YtchfhndpbfohhaaRefCh
namespace Go.Proofs.Ytchfhndpbfohhaa
set_option linter.unusedVariables false
set_option linter.unusedSimpArgs false
open Go.RowKit Bv
theorem word4_low (xs : List (BitVec 8)) : word4 xs = (low xs 4).setWidth 32 := by
  simp only [word4, low, BitVec.setWidth_or, BitVec.setWidth_shiftLeft_of_le (show 32 ≤ 64 by omega), BitVec.setWidth_setWidth_of_le _ (show 32 ≤ 64 by omega), Nat.mul_zero, Nat.mul_one, BitVec.shiftLeft_zero]
  simp
theorem word4_le (xs : List (BitVec 8)) (o : Nat) : word4 ((xs.drop o).take 4) = le32 xs o := by
  rw [word4_low, low_take _ _ 4 (by omega)]; rfl
/-- The byte of a place. -/
def obyte (x s : List (BitVec 32)) (i : Nat) : BitVec 8 := ((ath x (i / 4) + ath s (i / 4)) >>> (8 * (i % 4))).setWidth 8
def putb (x s : List (BitVec 32)) : Nat → List (BitVec 8)
  | 0 => List.replicate 64 0#8
  | k + 1 => (putb x s k).set k (obyte x s k)
theorem putb_len (x s : List (BitVec 32)) : ∀ k, (putb x s k).length = 64
  | 0 => rfl
  | k + 1 => by rw [putb, List.length_set, putb_len x s k]
theorem sw_shr (v : BitVec 32) (n : Nat) : ((v.setWidth 64) >>> n).setWidth 8 = (v >>> n).setWidth 8 := by
  ext i hi
  simp
  intro h
  exact BitVec.lt_of_getLsbD h |> fun _ => by omega
theorem outb_range (x s : List (BitVec 32)) : ∀ k, outb x s k = (List.range (4 * k)).map (obyte x s)
  | 0 => rfl
  | k + 1 => by
    rw [outb, outb_range x s k, show 4 * (k + 1) = 4 * k + 1 + 1 + 1 + 1 by omega]
    simp only [List.range_succ, List.map_append, List.append_assoc]
    congr 1
    simp only [lowb, obyte, sw_shr, List.nil_append, List.cons_append, List.map_cons, List.map_nil]
    rw [show 4 * k / 4 = k by omega, show (4 * k + 1) / 4 = k by omega, show (4 * k + 1 + 1) / 4 = k by omega, show (4 * k + 1 + 1 + 1) / 4 = k by omega,
      show 4 * k % 4 = 0 by omega, show (4 * k + 1) % 4 = 1 by omega, show (4 * k + 1 + 1) % 4 = 2 by omega, show (4 * k + 1 + 1 + 1) % 4 = 3 by omega]
theorem putb_range (x s : List (BitVec 32)) : ∀ k, k ≤ 64 → putb x s k = (List.range k).map (obyte x s) ++ List.replicate (64 - k) 0#8
  | 0, _ => rfl
  | k + 1, h => by
    rw [putb, putb_range x s k (by omega), List.range_succ, List.map_append, show 64 - k = (64 - (k + 1)) + 1 by omega, List.replicate_succ]
    rw [List.set_append_right _ _ (by simp)]
    simp
theorem putb_outb (x s : List (BitVec 32)) : putb x s 64 = outb x s 16 := by
  rw [putb_range x s 64 (Nat.le_refl _), outb_range]; simp
theorem rounds_succ (s : List (BitVec 32)) (k : Nat) : rounds s (k + 1) =
    qr4 (qr4 (qr4 (qr4 (qr4 (qr4 (qr4 (qr4 (rounds s k) 0 4 8 12) 1 5 9 13) 2 6 10 14) 3 7 11 15) 0 5 10 15) 1 6 11 12) 2 7 8 13) 3 4 9 14 := rfl
end Go.Proofs.Ytchfhndpbfohhaa
