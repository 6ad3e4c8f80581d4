/- HKDF with SHA-256, in plain words. No conditions. -/
import Derived.Test.YtmhkmamenfmolaaMacP
namespace Go.Proofs.Ytmhkmamenfmolaa
set_option linter.unusedVariables false
set_option linter.unusedSimpArgs false
open Bv Fw
/-- The k-th piece (the 0-th is empty). -/
def hkpc (key info : List (BitVec 8)) : Nat → List (BitVec 8)
  | 0 => []
  | k + 1 => mactag key (hkpc key info k ++ info ++ [BitVec.ofNat 8 (k + 1)])
/-- The first k pieces. -/
def hkout (key info : List (BitVec 8)) : Nat → List (BitVec 8)
  | 0 => []
  | k + 1 => hkout key info k ++ hkpc key info (k + 1)
theorem hkpc_zero (key info : List (BitVec 8)) : hkpc key info 0 = [] := rfl
theorem hkpc_succ (key info : List (BitVec 8)) (k : Nat) : hkpc key info (k + 1) = mactag key (hkpc key info k ++ info ++ [BitVec.ofNat 8 (k + 1)]) := rfl
theorem hkout_zero (key info : List (BitVec 8)) : hkout key info 0 = [] := rfl
theorem hkout_succ (key info : List (BitVec 8)) (k : Nat) : hkout key info (k + 1) = hkout key info k ++ hkpc key info (k + 1) := rfl
theorem hkpc_len (key info : List (BitVec 8)) (k : Nat) : (hkpc key info (k + 1)).length = 32 := mactag_len _ _
theorem hkpc_le (key info : List (BitVec 8)) : ∀ k, (hkpc key info k).length ≤ 32
  | 0 => Nat.zero_le _
  | k + 1 => Nat.le_of_eq (hkpc_len key info k)
theorem hkout_len (key info : List (BitVec 8)) : ∀ k, (hkout key info k).length = 32 * k
  | 0 => rfl
  | k + 1 => by rw [hkout, List.length_append, hkout_len key info k, hkpc_len]; omega
/-- More pieces begin alike. -/
theorem hkout_take (key info : List (BitVec 8)) (k : Nat) : ∀ j, (hkout key info (k + j)).take (32 * k) = hkout key info k
  | 0 => List.take_of_length_le (by rw [hkout_len]; omega)
  | j + 1 => by
    rw [show k + (j + 1) = (k + j) + 1 by omega, hkout, List.take_append_of_le_length (by rw [hkout_len]; omega), hkout_take key info k j]
/-- The first n bytes, out of as many pieces as are needed, or more. -/
def hkdf (key info : List (BitVec 8)) (n : Nat) : List (BitVec 8) := (hkout key info 255).take n
theorem hkdf_of (key info : List (BitVec 8)) (n k : Nat) (h : n ≤ 32 * k) (hk : k ≤ 255) : (hkout key info k).take n = hkdf key info n := by
  unfold hkdf
  have := hkout_take key info k (255 - k)
  rw [show k + (255 - k) = 255 by omega] at this
  rw [← this, List.take_take, Nat.min_eq_left h]
theorem hkdf_len (key info : List (BitVec 8)) (n : Nat) (h : n ≤ 8160) : (hkdf key info n).length = n := by
  unfold hkdf; rw [List.length_take, hkout_len]; omega
theorem hkdf_take (key info : List (BitVec 8)) (n m : Nat) (h : m ≤ n) : (hkdf key info n).take m = hkdf key info m := by
  unfold hkdf; rw [List.take_take, Nat.min_eq_left h]
theorem hkdf_piece (key info : List (BitVec 8)) (n k : Nat) (h : 32 * (k + 1) ≤ n) (hk : k < 255) : ((hkdf key info n).drop (32 * k)).take 32 = hkpc key info (k + 1) := by
  have e : (hkdf key info n).take (32 * (k + 1)) = hkout key info (k + 1) := by
    rw [hkdf_take _ _ _ _ h, ← hkdf_of key info (32 * (k + 1)) (k + 1) (Nat.le_refl _) (by omega), List.take_of_length_le (by rw [hkout_len]; omega)]
  have e2 : ((hkdf key info n).drop (32 * k)).take 32 = ((hkdf key info n).take (32 * (k + 1))).drop (32 * k) := by
    rw [List.drop_take]; congr 1; omega
  rw [e2, e, hkout, List.drop_append_of_le_length (by rw [hkout_len]; omega), List.drop_of_length_le (by rw [hkout_len]; omega), List.nil_append]
attribute [irreducible] hkpc hkout hkdf
end Go.Proofs.Ytmhkmamenfmolaa
