/- Limbs of 64 bits: sums with a carry, products, and what the program does with them modulo 2^130 - 5. No conditions. -/
import Derived.Test.YtemjinkdfjoicaaPolyP
import Derived.Test.YtemjinkdfjoicaaFwV
namespace Go.Proofs.Ytemjinkdfjoicaa
set_option linter.unusedVariables false
set_option linter.unusedSimpArgs false
open Bv Fw
theorem lt32_mul {a b : Nat} (ha : a < 4294967296) (hb : b < 4294967296) : a * b ≤ 18446744065119617025 := Nat.mul_le_mul (show a ≤ 4294967295 by omega) (show b ≤ 4294967295 by omega)
theorem and_mask32 (x : BitVec 64) : (x &&& 4294967295#64).toNat = x.toNat % 4294967296 := by
  rw [BitVec.toNat_and]
  exact Nat.and_two_pow_sub_one_eq_mod x.toNat 32
theorem shr32 (x : BitVec 64) : (x >>> 32).toNat = x.toNat / 4294967296 := by
  rw [BitVec.toNat_ushiftRight, Nat.shiftRight_eq_div_pow]
theorem split_mul (x1 x0 y1 y0 : Nat) : (4294967296 * x1 + x0) * (4294967296 * y1 + y0) = 18446744073709551616 * (x1 * y1) + 4294967296 * (x1 * y0) + 4294967296 * (x0 * y1) + x0 * y0 := by
  have : 18446744073709551616 * (x1 * y1) = 4294967296 * x1 * (4294967296 * y1) := by
    rw [Nat.mul_mul_mul_comm]
  rw [this, Nat.add_mul, Nat.mul_add, Nat.mul_add, Nat.mul_assoc 4294967296 x1 y0, ← Nat.mul_assoc x0 4294967296 y1, Nat.mul_comm x0 4294967296, Nat.mul_assoc 4294967296 x0 y1]
  omega
theorem mul64_law (x y : BitVec 64) : 18446744073709551616 * ((x >>> 32) * (y >>> 32) + (((x >>> 32) * (y &&& 4294967295#64) + (((x &&& 4294967295#64) * (y &&& 4294967295#64)) >>> 32)) >>> 32) + (((((x >>> 32) * (y &&& 4294967295#64) + (((x &&& 4294967295#64) * (y &&& 4294967295#64)) >>> 32)) &&& 4294967295#64) + (x &&& 4294967295#64) * (y >>> 32)) >>> 32)).toNat + (x * y).toNat = x.toNat * y.toNat := by
  have hx := x.isLt
  have hy := y.isLt
  have ex : x.toNat = 4294967296 * (x.toNat / 4294967296) + x.toNat % 4294967296 := by omega
  have ey : y.toNat = 4294967296 * (y.toNat / 4294967296) + y.toNat % 4294967296 := by omega
  have hxy : x.toNat * y.toNat = 18446744073709551616 * ((x.toNat / 4294967296) * (y.toNat / 4294967296)) + 4294967296 * ((x.toNat / 4294967296) * (y.toNat % 4294967296)) + 4294967296 * ((x.toNat % 4294967296) * (y.toNat / 4294967296)) + (x.toNat % 4294967296) * (y.toNat % 4294967296) := by
    conv => lhs; rw [ex, ey]
    exact split_mul _ _ _ _
  have b1 := lt32_mul (a := x.toNat / 4294967296) (b := y.toNat / 4294967296) (by omega) (by omega)
  have b2 := lt32_mul (a := x.toNat / 4294967296) (b := y.toNat % 4294967296) (by omega) (by omega)
  have b3 := lt32_mul (a := x.toNat % 4294967296) (b := y.toNat / 4294967296) (by omega) (by omega)
  have b4 := lt32_mul (a := x.toNat % 4294967296) (b := y.toNat % 4294967296) (by omega) (by omega)
  simp only [BitVec.toNat_add, BitVec.toNat_mul, and_mask32, shr32]
  generalize (x.toNat / 4294967296) * (y.toNat / 4294967296) = A at *
  generalize (x.toNat / 4294967296) * (y.toNat % 4294967296) = B at *
  generalize (x.toNat % 4294967296) * (y.toNat / 4294967296) = C at *
  generalize (x.toNat % 4294967296) * (y.toNat % 4294967296) = D at *
  rw [hxy]
  clear hxy ex ey hx hy
  omega
/-- One limb times one limb, to what is there and what is carried. -/
theorem mac_step {X hi lo ca p lo2 c1 q c2 : Nat} (hX : 18446744073709551616 * hi + lo = X) (hb : X ≤ 340282366920938463426481119284349108225) (h1 : lo2 + 18446744073709551616 * c1 = lo + ca) (h2 : q + 18446744073709551616 * c2 = p + lo2) (hca : ca < 18446744073709551616) (hp : p < 18446744073709551616) :
    18446744073709551616 * ((hi + c1) + c2) + q = X + ca + p ∧ (hi + c1) + c2 < 18446744073709551616 := by
  refine ⟨by omega, by omega⟩
theorem mul_le64 (x y : BitVec 64) : x.toNat * y.toNat ≤ 340282366920938463426481119284349108225 := Nat.mul_le_mul (show x.toNat ≤ 18446744073709551615 by have := x.isLt; omega) (show y.toNat ≤ 18446744073709551615 by have := y.isLt; omega)
/-- One limb times one limb, in bits. -/
theorem mac_bits {x y hi lo ca p lo2 c1 q c2 : BitVec 64} (hX : 18446744073709551616 * hi.toNat + lo.toNat = x.toNat * y.toNat) (h1 : lo2.toNat + 18446744073709551616 * c1.toNat = lo.toNat + ca.toNat + (0#64).toNat) (h2 : q.toNat + 18446744073709551616 * c2.toNat = p.toNat + lo2.toNat + (0#64).toNat) :
    18446744073709551616 * (hi + c1 + c2).toNat + q.toNat = x.toNat * y.toNat + ca.toNat + p.toNat := by
  have e0 : (0#64).toNat = 0 := rfl
  rw [e0] at h1 h2
  have h := mac_step hX (mul_le64 x y) (by omega : lo2.toNat + 18446744073709551616 * c1.toNat = lo.toNat + ca.toNat) (by omega : q.toNat + 18446744073709551616 * c2.toNat = p.toNat + lo2.toNat) ca.isLt p.isLt
  have e : (hi + c1 + c2).toNat = hi.toNat + c1.toNat + c2.toNat := by
    rw [BitVec.toNat_add, BitVec.toNat_add]
    have := h.2
    omega
  rw [e]
  exact h.1
/-- The number of three limbs. -/
def v3 (a b c : BitVec 64) : Nat := a.toNat + 18446744073709551616 * b.toNat + 340282366920938463463374607431768211456 * c.toNat
theorem v3_def (a b c : BitVec 64) : v3 a b c = a.toNat + 18446744073709551616 * b.toNat + 340282366920938463463374607431768211456 * c.toNat := rfl
/-- A sum of three limbs. -/
theorem plus_law {a0 a1 a2 x y z s0 c0 s1 c1 : BitVec 64} (h0 : s0.toNat + 18446744073709551616 * c0.toNat = a0.toNat + x.toNat + (0#64).toNat) (h1 : s1.toNat + 18446744073709551616 * c1.toNat = a1.toNat + y.toNat + c0.toNat) (hc1 : c1.toNat ≤ 1) (hb : a2.toNat + z.toNat + 1 < 18446744073709551616) :
    v3 s0 s1 (a2 + (z + c1)) = v3 a0 a1 a2 + v3 x y z := by
  have e0 : (0#64).toNat = 0 := rfl
  rw [e0] at h0
  have e : (a2 + (z + c1)).toNat = a2.toNat + z.toNat + c1.toNat := by
    rw [BitVec.toNat_add, BitVec.toNat_add]; omega
  simp only [v3_def, e]
  omega
theorem and3 (x : BitVec 64) : (x &&& 3#64).toNat = x.toNat % 4 := by
  rw [BitVec.toNat_and]; exact Nat.and_two_pow_sub_one_eq_mod x.toNat 2
theorem andnot3 (x : BitVec 64) : (x &&& ~~~3#64).toNat = x.toNat / 4 * 4 := by
  have e : x &&& ~~~3#64 = (x >>> 2) <<< 2 := by
    apply BitVec.eq_of_getLsbD_eq
    intro i hi
    simp only [BitVec.getLsbD_and, BitVec.getLsbD_not, BitVec.getLsbD_shiftLeft, BitVec.getLsbD_ushiftRight]
    by_cases h : i < 2
    · rcases (by omega : i = 0 ∨ i = 1) with rfl | rfl <;> simp
    · have h1 : 2 + (i - 2) = i := by omega
      have h2 : (3#64).getLsbD i = false := by
        have h3 : 2 ^ 2 ≤ 2 ^ i := Nat.pow_le_pow_right (by omega) (by omega)
        rw [BitVec.getLsbD, BitVec.toNat_ofNat]
        exact Nat.testBit_lt_two_pow (by omega)
      rw [h2, h1]
      simp [h, hi]
  rw [e, BitVec.toNat_shiftLeft, BitVec.toNat_ushiftRight, Nat.shiftRight_eq_div_pow, Nat.shiftLeft_eq]
  have := x.isLt
  omega
theorem once_law (x y : BitVec 64) : ((x >>> 2) ||| (y <<< 62)).toNat = x.toNat / 4 + y.toNat % 4 * 4611686018427387904 := by
  rw [BitVec.toNat_or, BitVec.toNat_shiftLeft, BitVec.toNat_ushiftRight, Nat.shiftRight_eq_div_pow]
  have hx := x.isLt
  have e1 : y.toNat <<< 62 % 2 ^ 64 = (y.toNat % 4) <<< 62 := by rw [Nat.shiftLeft_eq, Nat.shiftLeft_eq]; omega
  rw [e1, Nat.or_comm, ← Nat.shiftLeft_add_eq_or_of_lt (by omega : x.toNat / 2 ^ 2 < 2 ^ 62), Nat.shiftLeft_eq]
  omega
theorem shr2 (x : BitVec 64) : (x >>> 2).toNat = x.toNat / 4 := by rw [BitVec.toNat_ushiftRight, Nat.shiftRight_eq_div_pow]
theorem dist32 (a0 a1 a2 r0 r1 : Nat) : (a0 + 18446744073709551616 * a1 + 340282366920938463463374607431768211456 * a2) * (r0 + 18446744073709551616 * r1) = a0 * r0 + 18446744073709551616 * (a0 * r1) + 18446744073709551616 * (a1 * r0) + 340282366920938463463374607431768211456 * (a1 * r1) + 340282366920938463463374607431768211456 * (a2 * r0) + 6277101735386680763835789423207666416102355444464034512896 * (a2 * r1) := by
  have e1 : 340282366920938463463374607431768211456 * (a1 * r1) = 18446744073709551616 * a1 * (18446744073709551616 * r1) := by rw [Nat.mul_mul_mul_comm]
  have e2 : 6277101735386680763835789423207666416102355444464034512896 * (a2 * r1) = 340282366920938463463374607431768211456 * a2 * (18446744073709551616 * r1) := by rw [Nat.mul_mul_mul_comm]
  rw [e1, e2]
  simp only [Nat.add_mul, Nat.mul_add]
  rw [Nat.mul_assoc 18446744073709551616 a1 r0, Nat.mul_assoc 340282366920938463463374607431768211456 a2 r0, Nat.mul_left_comm a0 18446744073709551616 r1]
  omega
/-- Three limbs times two: the rows, one behind the other. -/
theorem rows_law {a0 a1 a2 r0 r1 p0 p1 p2 p1' p2' p3 p2'' p3' p4 k00 k01 k10 k11 k20 k21 : Nat}
    (h00 : 18446744073709551616 * k00 + p0 = a0 * r0 + 0 + 0) (h01 : 18446744073709551616 * k01 + p1 = a0 * r1 + k00 + 0) (e2 : p2 = k01)
    (h10 : 18446744073709551616 * k10 + p1' = a1 * r0 + 0 + p1) (h11 : 18446744073709551616 * k11 + p2' = a1 * r1 + k10 + p2) (e3 : p3 = k11)
    (h20 : 18446744073709551616 * k20 + p2'' = a2 * r0 + 0 + p2') (h21 : 18446744073709551616 * k21 + p3' = a2 * r1 + k20 + p3) (e4 : p4 = k21) :
    p0 + 18446744073709551616 * p1' + 340282366920938463463374607431768211456 * p2'' + 6277101735386680763835789423207666416102355444464034512896 * p3' + 115792089237316195423570985008687907853269984665640564039457584007913129639936 * p4 = (a0 + 18446744073709551616 * a1 + 340282366920938463463374607431768211456 * a2) * (r0 + 18446744073709551616 * r1) := by
  rw [dist32]; omega
/-- What stands from the bit 130 on counts five times. -/
theorem fold_law {p0 p1 p2 p3 p4 : BitVec 64} {Q out : Nat} (hQ : p0.toNat + 18446744073709551616 * p1.toNat + 340282366920938463463374607431768211456 * p2.toNat + 6277101735386680763835789423207666416102355444464034512896 * p3.toNat + 115792089237316195423570985008687907853269984665640564039457584007913129639936 * p4.toNat = Q)
    (ho : out = v3 p0 p1 (p2 &&& 3#64) + v3 (p2 &&& ~~~3#64) p3 p4 + v3 (((p2 &&& ~~~3#64) >>> 2) ||| (p3 <<< 62)) ((p3 >>> 2) ||| (p4 <<< 62)) (p4 >>> 2)) :
    out % polyP = Q % polyP ∧ out ≤ 1361129467683753853853498429727072845823 + 5 * (Q / 1361129467683753853853498429727072845824) := by
  simp only [v3_def, and3, andnot3, once_law, shr2] at ho
  have h0 := p0.isLt
  have h1 := p1.isLt
  have h2 := p2.isLt
  have h3 := p3.isLt
  have h4 := p4.isLt
  generalize p0.toNat = a0 at *
  generalize p1.toNat = a1 at *
  generalize p2.toNat = a2 at *
  generalize p3.toNat = a3 at *
  generalize p4.toNat = a4 at *
  obtain ⟨h, hh⟩ : ∃ h, h = Q / 1361129467683753853853498429727072845824 := ⟨_, rfl⟩
  have eh : h = a2 / 4 + 4611686018427387904 * a3 + 85070591730234615865843651857942052864 * a4 := by omega
  have e : out + polyP * h = Q := by rw [polyP_eq]; omega
  refine ⟨by rw [← e, Nat.add_mul_mod_self_left], ?_⟩
  rw [← hh]
  omega
theorem v3_lt_top {a b c : BitVec 64} {B : Nat} (h : v3 a b c < 340282366920938463463374607431768211456 * B) : c.toNat < B := by
  rw [v3_def] at h; omega
attribute [irreducible] v3
end Go.Proofs.Ytemjinkdfjoicaa
