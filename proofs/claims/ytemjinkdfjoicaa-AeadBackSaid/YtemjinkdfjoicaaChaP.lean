/- ChaCha20 in plain words: a quarter, a state, a block, bytes turned. No conditions. -/
import Derived.Test.YtemjinkdfjoicaaShaP
namespace Go.Proofs.Ytemjinkdfjoicaa
set_option linter.unusedVariables false
set_option linter.unusedSimpArgs false
open Bv Fw
/-- A quarter round: its four numbers. -/
def qa (a b c d : BitVec 32) : BitVec 32 := a + b + rol32 (b ^^^ (c + rol32 (d ^^^ (a + b)) 16)) 12
def qd (a b c d : BitVec 32) : BitVec 32 := rol32 (rol32 (d ^^^ (a + b)) 16 ^^^ qa a b c d) 8
def qc (a b c d : BitVec 32) : BitVec 32 := c + rol32 (d ^^^ (a + b)) 16 + qd a b c d
def qb (a b c d : BitVec 32) : BitVec 32 := rol32 (rol32 (b ^^^ (c + rol32 (d ^^^ (a + b)) 16)) 12 ^^^ qc a b c d) 7
/-- The word of four bytes from a place on. -/
def le32 (xs : List (BitVec 8)) (o : Nat) : BitVec 32 := (low (xs.drop o) 4).setWidth 32
theorem le32_def (xs : List (BitVec 8)) (o : Nat) : (low (xs.drop o) 4).setWidth 32 = le32 xs o := rfl
def cst0 : List (BitVec 32) := [1634760805#32, 857760878#32, 2036477234#32, 1797285236#32, 0#32, 0#32, 0#32, 0#32, 0#32, 0#32, 0#32, 0#32, 0#32, 0#32, 0#32, 0#32]
/-- What a block begins with: behind k words of the key. -/
def cstA (key : List (BitVec 8)) : Nat → List (BitVec 32)
  | 0 => cst0
  | k + 1 => (cstA key k).set (4 + k) (le32 key (4 * k))
/-- .. behind the counter, and k words of the nonce. -/
def cstB (key : List (BitVec 8)) (ctr : BitVec 32) (nonce : List (BitVec 8)) : Nat → List (BitVec 32)
  | 0 => (cstA key 8).set 12 ctr
  | k + 1 => (cstB key ctr nonce k).set (13 + k) (le32 nonce (4 * k))
theorem cstA_len (key : List (BitVec 8)) : ∀ k, (cstA key k).length = 16
  | 0 => rfl
  | k + 1 => by simp [cstA, cstA_len key k]
theorem cstB_len (key : List (BitVec 8)) (ctr : BitVec 32) (nonce : List (BitVec 8)) : ∀ k, (cstB key ctr nonce k).length = 16
  | 0 => by simp [cstB, cstA_len]
  | k + 1 => by simp [cstB, cstB_len key ctr nonce k]
theorem cstA_zero (key : List (BitVec 8)) : cstA key 0 = [1634760805#32, 857760878#32, 2036477234#32, 1797285236#32, 0#32, 0#32, 0#32, 0#32, 0#32, 0#32, 0#32, 0#32, 0#32, 0#32, 0#32, 0#32] := rfl
theorem cstA_succ (key : List (BitVec 8)) (k : Nat) : cstA key (k + 1) = (cstA key k).set (4 + k) (le32 key (4 * k)) := rfl
theorem cstB_zero (key : List (BitVec 8)) (ctr : BitVec 32) (nonce : List (BitVec 8)) : cstB key ctr nonce 0 = (cstA key 8).set 12 ctr := rfl
theorem cstB_succ (key : List (BitVec 8)) (ctr : BitVec 32) (nonce : List (BitVec 8)) (k : Nat) : cstB key ctr nonce (k + 1) = (cstB key ctr nonce k).set (13 + k) (le32 nonce (4 * k)) := rfl
theorem low_tk (xs : List (BitVec 8)) (n : Nat) : ∀ k, k ≤ n → low (xs.take n) k = low xs k
  | 0, _ => rfl
  | k + 1, h => by rw [low, low, low_tk xs n k (by omega), ath_take xs n k (by omega)]
/-- Four bytes, by hand. -/
theorem word4_low (xs : List (BitVec 8)) : (ath xs 0).setWidth 32 ||| (ath xs 1).setWidth 32 <<< 8 ||| (ath xs 2).setWidth 32 <<< 16 ||| (ath xs 3).setWidth 32 <<< 24 = (low xs 4).setWidth 32 := by
  simp only [low, BitVec.setWidth_or, BitVec.setWidth_shiftLeft_of_le (show 32 ≤ 64 by omega), BitVec.setWidth_setWidth_of_le _ (show 32 ≤ 64 by omega), Nat.mul_zero, Nat.mul_one, BitVec.shiftLeft_zero]
  simp
/-- A quarter round at four places. -/
def qr4 (s : List (BitVec 32)) (i j k l : Nat) : List (BitVec 32) :=
  (((s.set i (qa (ath s i) (ath s j) (ath s k) (ath s l))).set j (qb (ath s i) (ath s j) (ath s k) (ath s l))).set k (qc (ath s i) (ath s j) (ath s k) (ath s l))).set l (qd (ath s i) (ath s j) (ath s k) (ath s l))
theorem qr4_def (s : List (BitVec 32)) (i j k l : Nat) : (((s.set i (qa (ath s i) (ath s j) (ath s k) (ath s l))).set j (qb (ath s i) (ath s j) (ath s k) (ath s l))).set k (qc (ath s i) (ath s j) (ath s k) (ath s l))).set l (qd (ath s i) (ath s j) (ath s k) (ath s l)) = qr4 s i j k l := rfl
def colr (s : List (BitVec 32)) : Nat → List (BitVec 32)
  | 0 => s
  | k + 1 => qr4 (colr s k) k (4 + k) (8 + k) (12 + k)
def diar (s : List (BitVec 32)) : Nat → List (BitVec 32)
  | 0 => s
  | k + 1 => qr4 (diar s k) k (4 + (k + 1) % 4) (8 + (k + 2) % 4) (12 + (k + 3) % 4)
def crounds (s : List (BitVec 32)) : Nat → List (BitVec 32)
  | 0 => s
  | k + 1 => diar (colr (crounds s k) 4) 4
theorem qr4_len (s : List (BitVec 32)) (i j k l : Nat) : (qr4 s i j k l).length = s.length := by simp [qr4]
theorem colr_len (s : List (BitVec 32)) : ∀ k, (colr s k).length = s.length
  | 0 => rfl
  | k + 1 => by rw [colr, qr4_len, colr_len s k]
theorem diar_len (s : List (BitVec 32)) : ∀ k, (diar s k).length = s.length
  | 0 => rfl
  | k + 1 => by rw [diar, qr4_len, diar_len s k]
theorem crounds_len (s : List (BitVec 32)) : ∀ k, (crounds s k).length = s.length
  | 0 => rfl
  | k + 1 => by rw [crounds, diar_len, colr_len, crounds_len s k]
theorem colr_zero (s : List (BitVec 32)) : colr s 0 = s := rfl
theorem colr_succ (s : List (BitVec 32)) (k : Nat) : colr s (k + 1) = qr4 (colr s k) k (4 + k) (8 + k) (12 + k) := rfl
theorem diar_zero (s : List (BitVec 32)) : diar s 0 = s := rfl
theorem diar_succ (s : List (BitVec 32)) (k : Nat) : diar s (k + 1) = qr4 (diar s k) k (4 + (k + 1) % 4) (8 + (k + 2) % 4) (12 + (k + 3) % 4) := rfl
theorem crounds_zero (s : List (BitVec 32)) : crounds s 0 = s := rfl
theorem crounds_succ (s : List (BitVec 32)) (k : Nat) : crounds s (k + 1) = diar (colr (crounds s k) 4) 4 := rfl
theorem crounds_hand (s : List (BitVec 32)) (k : Nat) : crounds s (k + 1) =
    qr4 (qr4 (qr4 (qr4 (qr4 (qr4 (qr4 (qr4 (crounds s k) 0 4 8 12) 1 5 9 13) 2 6 10 14) 3 7 11 15) 0 5 10 15) 1 6 11 12) 2 7 8 13) 3 4 9 14 := rfl
/-- The bytes of the first k sums of two lists of words. -/
def outb (x s : List (BitVec 32)) : Nat → List (BitVec 8)
  | 0 => []
  | k + 1 => outb x s k ++ lowb ((ath x k + ath s k).setWidth 64) 4
theorem outb_zero (x s : List (BitVec 32)) : outb x s 0 = [] := rfl
theorem outb_succ (x s : List (BitVec 32)) (k : Nat) : outb x s (k + 1) = outb x s k ++ lowb ((ath x k + ath s k).setWidth 64) 4 := rfl
theorem outb_len (x s : List (BitVec 32)) : ∀ k, (outb x s k).length = 4 * k
  | 0 => rfl
  | k + 1 => by rw [outb, List.length_append, outb_len x s k, lowb_len]; omega
/-- The block. -/
def cblock (key : List (BitVec 8)) (ctr : BitVec 32) (nonce : List (BitVec 8)) : List (BitVec 8) :=
  outb (crounds (cstB key ctr nonce 3) 10) (cstB key ctr nonce 3) 16
theorem cblock_def (key : List (BitVec 8)) (ctr : BitVec 32) (nonce : List (BitVec 8)) : outb (crounds (cstB key ctr nonce 3) 10) (cstB key ctr nonce 3) 16 = cblock key ctr nonce := rfl
theorem cblock_len (key : List (BitVec 8)) (ctr : BitVec 32) (nonce : List (BitVec 8)) : (cblock key ctr nonce).length = 64 := outb_len _ _ 16
/-- The byte of a place. -/
def obyte (x s : List (BitVec 32)) (i : Nat) : BitVec 8 := ((ath x (i / 4) + ath s (i / 4)) >>> (8 * (i % 4))).setWidth 8
def putb (x s : List (BitVec 32)) : Nat → List (BitVec 8)
  | 0 => List.replicate 64 0#8
  | k + 1 => (putb x s k).set k (obyte x s k)
theorem putb_zero (x s : List (BitVec 32)) : putb x s 0 = List.replicate 64 0#8 := rfl
theorem putb_succ (x s : List (BitVec 32)) (k : Nat) : putb x s (k + 1) = (putb x s k).set k (((ath x (k / 4) + ath s (k / 4)) >>> (8 * (k % 4))).setWidth 8) := rfl
theorem putb_len (x s : List (BitVec 32)) : ∀ k, (putb x s k).length = 64
  | 0 => rfl
  | k + 1 => by rw [putb, List.length_set, putb_len x s k]
theorem sw_shr (v : BitVec 32) (n : Nat) : ((v.setWidth 64) >>> n).setWidth 8 = (v >>> n).setWidth 8 := by
  ext i hi
  simp
  intro h
  exact BitVec.lt_of_getLsbD h |> fun _ => by omega
theorem outb_range (x s : List (BitVec 32)) : ∀ k, outb x s k = (List.range (4 * k)).map (obyte x s)
  | 0 => rfl
  | k + 1 => by
    rw [outb, outb_range x s k, show 4 * (k + 1) = 4 * k + 1 + 1 + 1 + 1 by omega]
    simp only [List.range_succ, List.map_append, List.append_assoc]
    congr 1
    simp only [lowb, obyte, sw_shr, List.nil_append, List.cons_append, List.map_cons, List.map_nil]
    rw [show 4 * k / 4 = k by omega, show (4 * k + 1) / 4 = k by omega, show (4 * k + 1 + 1) / 4 = k by omega, show (4 * k + 1 + 1 + 1) / 4 = k by omega,
      show 4 * k % 4 = 0 by omega, show (4 * k + 1) % 4 = 1 by omega, show (4 * k + 1 + 1) % 4 = 2 by omega, show (4 * k + 1 + 1 + 1) % 4 = 3 by omega]
theorem putb_range (x s : List (BitVec 32)) : ∀ k, k ≤ 64 → putb x s k = (List.range k).map (obyte x s) ++ List.replicate (64 - k) 0#8
  | 0, _ => rfl
  | k + 1, h => by
    rw [putb, putb_range x s k (by omega), List.range_succ, List.map_append, show 64 - k = (64 - (k + 1)) + 1 by omega, List.replicate_succ]
    rw [List.set_append_right _ _ (by simp)]
    simp
theorem putb_outb (x s : List (BitVec 32)) : putb x s 64 = outb x s 16 := by
  rw [putb_range x s 64 (Nat.le_refl _), outb_range]; simp
/-- Bytes, each turned by that of its place in the blocks. -/
def xorb (key nonce : List (BitVec 8)) (ctr : BitVec 32) (xs : List (BitVec 8)) : Nat → List (BitVec 8)
  | 0 => []
  | k + 1 => xorb key nonce ctr xs k ++ [ath xs k ^^^ ath (cblock key (ctr + BitVec.ofNat 32 (k / 64)) nonce) (k % 64)]
theorem xorb_zero (key nonce : List (BitVec 8)) (ctr : BitVec 32) (xs : List (BitVec 8)) : xorb key nonce ctr xs 0 = [] := rfl
theorem xorb_succ (key nonce : List (BitVec 8)) (ctr : BitVec 32) (xs : List (BitVec 8)) (k : Nat) : xorb key nonce ctr xs (k + 1) = xorb key nonce ctr xs k ++ [ath xs k ^^^ ath (cblock key (ctr + BitVec.ofNat 32 (k / 64)) nonce) (k % 64)] := rfl
theorem xorb_len (key nonce : List (BitVec 8)) (ctr : BitVec 32) (xs : List (BitVec 8)) : ∀ k, (xorb key nonce ctr xs k).length = k
  | 0 => rfl
  | k + 1 => by rw [xorb, List.length_append, xorb_len key nonce ctr xs k]; rfl
theorem xorb_at (key nonce : List (BitVec 8)) (ctr : BitVec 32) (xs : List (BitVec 8)) : ∀ n j, j < n → ath (xorb key nonce ctr xs n) j = ath xs j ^^^ ath (cblock key (ctr + BitVec.ofNat 32 (j / 64)) nonce) (j % 64)
  | 0, j, h => by omega
  | n + 1, j, h => by
    rw [xorb]
    by_cases hj : j < n
    · rw [ath_app_l _ _ _ (by rw [xorb_len]; exact hj), xorb_at key nonce ctr xs n j hj]
    · obtain rfl : j = n := by omega
      rw [ath_app_r _ _ _ (by rw [xorb_len]; omega), xorb_len, Nat.sub_self]; rfl
/-- Bytes, turned. -/
def cxor (key nonce : List (BitVec 8)) (ctr : BitVec 32) (xs : List (BitVec 8)) : List (BitVec 8) := xorb key nonce ctr xs xs.length
theorem cxor_def (key nonce : List (BitVec 8)) (ctr : BitVec 32) (xs : List (BitVec 8)) (n : Nat) (h : xs.length = n) : xorb key nonce ctr xs n = cxor key nonce ctr xs := by subst h; rfl
theorem cxor_len (key nonce : List (BitVec 8)) (ctr : BitVec 32) (xs : List (BitVec 8)) : (cxor key nonce ctr xs).length = xs.length := xorb_len _ _ _ _ _
theorem cxor_at (key nonce : List (BitVec 8)) (ctr : BitVec 32) (xs : List (BitVec 8)) (j : Nat) (h : j < xs.length) : ath (cxor key nonce ctr xs) j = ath xs j ^^^ ath (cblock key (ctr + BitVec.ofNat 32 (j / 64)) nonce) (j % 64) := xorb_at _ _ _ _ _ _ h
/-- Turned twice. -/
theorem cxor_cxor (key nonce : List (BitVec 8)) (ctr : BitVec 32) (xs : List (BitVec 8)) : cxor key nonce ctr (cxor key nonce ctr xs) = xs := by
  refine ext_ath (by rw [cxor_len, cxor_len]) (fun j hj => ?_)
  rw [cxor_len, cxor_len] at hj
  rw [cxor_at _ _ _ _ _ (by rw [cxor_len]; exact hj), cxor_at _ _ _ _ _ hj, BitVec.xor_assoc, BitVec.xor_self, BitVec.xor_zero]
/-- From a whole block on. -/
theorem cxor_drop (key nonce : List (BitVec 8)) (ctr : BitVec 32) (xs : List (BitVec 8)) (k : Nat) (h : 64 * k ≤ xs.length) : cxor key nonce (ctr + BitVec.ofNat 32 k) (xs.drop (64 * k)) = (cxor key nonce ctr xs).drop (64 * k) := by
  refine ext_ath (by rw [cxor_len, List.length_drop, List.length_drop, cxor_len]) (fun j hj => ?_)
  rw [cxor_len, List.length_drop] at hj
  rw [cxor_at _ _ _ _ _ (by rw [List.length_drop]; exact hj), ath_drop, ath_drop, cxor_at _ _ _ _ _ (by omega), show (64 * k + j) / 64 = k + j / 64 by omega, show (64 * k + j) % 64 = j % 64 by omega, BitVec.add_assoc, ← BitVec.ofNat_add]
attribute [irreducible] qa qb qc qd le32 cstA cstB qr4 colr diar crounds outb cblock putb xorb cxor
end Go.Proofs.Ytemjinkdfjoicaa
