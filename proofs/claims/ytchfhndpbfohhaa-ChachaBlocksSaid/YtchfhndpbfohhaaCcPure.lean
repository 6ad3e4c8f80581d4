/- Turning numbers of 32 bits; a quarter round: plain bit vectors, no program. No conditions. -/
import Derived.Test.YtchfhndpbfohhaaBv
namespace Go.Proofs.Ytchfhndpbfohhaa
open Go.RowKit Bv
/-- Turned to the left by n (below 32). -/
def rol (x : BitVec 32) (n : Nat) : BitVec 32 := x <<< n ||| x >>> (32 - n)
/-- Turned to the right by n (below 32). -/
def ror (x : BitVec 32) (n : Nat) : BitVec 32 := x >>> n ||| x <<< (32 - n)
theorem rol_eq (x : BitVec 32) (n : Nat) (h : n < 32) : rol x n = x.rotateLeft n := by
  unfold rol; rw [BitVec.rotateLeft_eq_rotateLeftAux_of_lt h]; rfl
theorem ror_eq (x : BitVec 32) (n : Nat) (h : n < 32) : ror x n = x.rotateRight n := by
  unfold ror; rw [BitVec.rotateRight_eq_rotateRightAux_of_lt h]; rfl
theorem ror_rol (x : BitVec 32) (n : Nat) (h0 : 0 < n) (h : n < 32) : ror (rol x n) n = x := by
  rw [rol_eq x n h, ror_eq _ n h]
  apply BitVec.eq_of_getLsbD_eq
  intro i hi
  rw [BitVec.getLsbD_rotateRight, BitVec.getLsbD_rotateLeft, BitVec.getLsbD_rotateLeft]
  simp only [Nat.mod_eq_of_lt h]
  by_cases h1 : i < 32 - n
  · simp only [decide_eq_true h1, decide_eq_false (show ¬ n + i < n by omega), cond_true, cond_false, decide_eq_true (show n + i < 32 by omega), Bool.true_and, show n + i - n = i by omega]
  · simp only [decide_eq_false h1, decide_eq_true (show i - (32 - n) < n by omega), cond_true, cond_false, decide_eq_true hi, Bool.true_and, show 32 - n + (i - (32 - n)) = i by omega]
structure Four where
  a : BitVec 32
  b : BitVec 32
  c : BitVec 32
  d : BitVec 32
/-- A quarter round. -/
def quarter (q : Four) : Four :=
  let a := q.a + q.b
  let d := rol (q.d ^^^ a) 16
  let c := q.c + d
  let b := rol (q.b ^^^ c) 12
  let a := a + b
  let d := rol (d ^^^ a) 8
  let c := c + d
  let b := rol (b ^^^ c) 7
  ⟨a, b, c, d⟩
/-- A quarter round, turned back step by step. -/
theorem quarter_back (q : Four) :
    let z := quarter q
    let b1 := ror z.b 7 ^^^ z.c
    let c1 := z.c - z.d
    let d1 := ror z.d 8 ^^^ z.a
    let a1 := z.a - b1
    let b2 := ror b1 12 ^^^ c1
    let c2 := c1 - d1
    let d2 := ror d1 16 ^^^ a1
    let a2 := a1 - b2
    a2 = q.a ∧ b2 = q.b ∧ c2 = q.c ∧ d2 = q.d := by
  have e1 (x y : BitVec 32) : x + y - y = x := by rw [BitVec.add_sub_cancel]
  have e2 (x y : BitVec 32) : x ^^^ y ^^^ y = x := by rw [BitVec.xor_assoc, BitVec.xor_self, BitVec.xor_zero]
  have t7 (x) := ror_rol x 7 (by omega) (by omega)
  have t8 (x) := ror_rol x 8 (by omega) (by omega)
  have t12 (x) := ror_rol x 12 (by omega) (by omega)
  have t16 (x) := ror_rol x 16 (by omega) (by omega)
  simp only [quarter, t7, t8, t12, t16, e1, e2, and_self]
theorem and31 (k : Int) (s : Nat) (hs : s < 32) (hk : k % 32 = s) : bits .and .u64 (IntKind.u64.wrap k) 31 = (s : Int) := by
  rw [Bv.wrap64, show (31 : Int) = n64 31#64 from rfl, and64]
  unfold n64
  rw [BitVec.toNat_and, BitVec.toNat_ofInt]
  have : (31#64).toNat = 2 ^ 5 - 1 := rfl
  rw [this, Nat.and_two_pow_sub_one_eq_mod]
  omega
end Go.Proofs.Ytchfhndpbfohhaa
