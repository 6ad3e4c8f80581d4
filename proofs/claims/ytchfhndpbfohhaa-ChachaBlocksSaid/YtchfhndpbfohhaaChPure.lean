/- The rounds of chacha on lists of words: plain functions. No conditions. -/
import Derived.Test.YtchfhndpbfohhaaChBlock
namespace Go.Proofs.Ytchfhndpbfohhaa
set_option linter.unusedVariables false
set_option linter.unusedSimpArgs false
open Go.RowKit Bv
/-- A quarter round at four places. -/
def qr4 (s : List (BitVec 32)) (i j k l : Nat) : List (BitVec 32) :=
  let q := quarter ⟨ath s i, ath s j, ath s k, ath s l⟩
  (((s.set i q.a).set j q.b).set k q.c).set l q.d
def colr (s : List (BitVec 32)) : Nat → List (BitVec 32)
  | 0 => s
  | k + 1 => qr4 (colr s k) k (4 + k) (8 + k) (12 + k)
def diar (s : List (BitVec 32)) : Nat → List (BitVec 32)
  | 0 => s
  | k + 1 => qr4 (diar s k) k (4 + (k + 1) % 4) (8 + (k + 2) % 4) (12 + (k + 3) % 4)
def rounds (s : List (BitVec 32)) : Nat → List (BitVec 32)
  | 0 => s
  | k + 1 => diar (colr (rounds s k) 4) 4
theorem qr4_len (s : List (BitVec 32)) (i j k l : Nat) : (qr4 s i j k l).length = s.length := by simp [qr4]
theorem colr_len (s : List (BitVec 32)) : ∀ k, (colr s k).length = s.length
  | 0 => rfl
  | k + 1 => by rw [colr, qr4_len, colr_len s k]
theorem diar_len (s : List (BitVec 32)) : ∀ k, (diar s k).length = s.length
  | 0 => rfl
  | k + 1 => by rw [diar, qr4_len, diar_len s k]
theorem rounds_len (s : List (BitVec 32)) : ∀ k, (rounds s k).length = s.length
  | 0 => rfl
  | k + 1 => by rw [rounds, diar_len, colr_len, rounds_len s k]
/-- The bytes of the first k sums of two lists of words. -/
def outb (x s : List (BitVec 32)) : Nat → List (BitVec 8)
  | 0 => []
  | k + 1 => outb x s k ++ lowb ((ath x k + ath s k).setWidth 64) 4
theorem outb_len (x s : List (BitVec 32)) : ∀ k, (outb x s k).length = 4 * k
  | 0 => rfl
  | k + 1 => by rw [outb, List.length_append, outb_len x s k, lowb_len]; omega
/-- The block. -/
def cblock (key : List (BitVec 8)) (ctr : BitVec 32) (nonce : List (BitVec 8)) : List (BitVec 8) :=
  outb (rounds (stB key ctr nonce 3) 10) (stB key ctr nonce 3) 16

end Go.Proofs.Ytchfhndpbfohhaa
