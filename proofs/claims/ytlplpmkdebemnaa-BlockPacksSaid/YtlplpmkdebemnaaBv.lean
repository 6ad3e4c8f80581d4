/- Bridging words: whole numbers of the model that are the numbers of bit vectors. No conditions. -/
import Derived.WalkKit
import Derived.Lib.Hide
namespace Go.Proofs.Ytlplpmkdebemnaa.Bv
open Go.RowKit

/-- The number of a bit vector, as the model's whole number (a plain def: the walk doesn't look into it). -/
def n8 (x : BitVec 8) : Int := (x.toNat : Int)
def n32 (x : BitVec 32) : Int := (x.toNat : Int)
def n64 (x : BitVec 64) : Int := (x.toNat : Int)
/-- The number of 64 bits, as an int with its sign. -/
def i64 (x : BitVec 64) : Int := x.toInt

abbrev b8 (x : BitVec 8) : Value := .int .u8 (n8 x)
theorem n8_def (x : BitVec 8) : n8 x = (x.toNat : Int) := rfl
theorem n8_nonneg (x : BitVec 8) : 0 ≤ n8 x := by unfold n8; omega
theorem n8_le (x : BitVec 8) : n8 x ≤ 255 := by unfold n8; have := x.isLt; omega
theorem n8_inj {x y : BitVec 8} (h : n8 x = n8 y) : x = y := BitVec.eq_of_toNat_eq (by unfold n8 at h; omega)
theorem n8_eq (x y : BitVec 8) : (n8 x = n8 y) ↔ x = y := ⟨n8_inj, fun h => by rw [h]⟩
theorem n8_beq (x y : BitVec 8) : (n8 x == n8 y) = (x == y) := by rw [Bool.eq_iff_iff]; simp [n8_eq]
theorem n8_bne (x y : BitVec 8) : (n8 x != n8 y) = (x != y) := by simp only [bne, n8_beq]
theorem n8_lt (x y : BitVec 8) : (n8 x < n8 y) ↔ x < y := by unfold n8; rw [BitVec.lt_def]; omega
theorem wrap8 (n : Int) : IntKind.u8.wrap n = n8 (BitVec.ofInt 8 n) := by
  unfold n8; simp [IntKind.wrap, IntKind.bits, IntKind.signed, BitVec.toNat_ofInt]; omega
theorem of8 (x : BitVec 8) : BitVec.ofInt 8 (n8 x) = x := by unfold n8; rw [BitVec.ofInt_natCast]; simp
theorem ofl8 (m : Nat) : BitVec.ofInt 8 (OfNat.ofNat m : Int) = BitVec.ofNat 8 m := by
  show BitVec.ofInt 8 ((m : Nat) : Int) = _
  rw [BitVec.ofInt_natCast]
theorem lit8 (m : Nat) (h : m < 256) : (OfNat.ofNat m : Int) = n8 (BitVec.ofNat 8 m) := by
  unfold n8; rw [BitVec.toNat_ofNat, Nat.mod_eq_of_lt h]; rfl
theorem in8 (x : BitVec 8) : IntKind.u8.wrap (n8 x) = n8 x := by rw [wrap8, of8]
theorem add8 (x y : BitVec 8) : IntKind.u8.wrap (n8 x + n8 y) = n8 (x + y) := by rw [wrap8, BitVec.ofInt_add, of8, of8]
theorem addl8 (x : BitVec 8) (m : Nat) : IntKind.u8.wrap (n8 x + (no_index (OfNat.ofNat m) : Int)) = n8 (x + BitVec.ofNat 8 m) := by rw [wrap8, BitVec.ofInt_add, of8, ofl8]
theorem sub8 (x y : BitVec 8) : IntKind.u8.wrap (n8 x - n8 y) = n8 (x - y) := by
  rw [wrap8, Int.sub_eq_add_neg, BitVec.ofInt_add, BitVec.ofInt_neg, of8, of8, BitVec.sub_eq_add_neg]
theorem subl8 (x : BitVec 8) (m : Nat) : IntKind.u8.wrap (n8 x - (no_index (OfNat.ofNat m) : Int)) = n8 (x - BitVec.ofNat 8 m) := by
  rw [wrap8, Int.sub_eq_add_neg, BitVec.ofInt_add, BitVec.ofInt_neg, of8, ofl8, BitVec.sub_eq_add_neg]
theorem neg8 (x : BitVec 8) : IntKind.u8.wrap (-n8 x) = n8 (-x) := by rw [wrap8, BitVec.ofInt_neg, of8]
theorem mul8 (x y : BitVec 8) : IntKind.u8.wrap (n8 x * n8 y) = n8 (x * y) := by rw [wrap8, BitVec.ofInt_mul, of8, of8]
theorem not8 (x : BitVec 8) : Op.unary .xor (.int .u8 (n8 x)) = pure (.int .u8 (n8 (~~~x))) := by
  show (pure (.int .u8 (IntKind.u8.wrap ((BitVec.ofInt 8 (IntKind.u8.max) ^^^ BitVec.ofInt 8 (n8 x)).toNat : Int))) : Sem Value) = _
  rw [of8, wrap8, BitVec.ofInt_natCast, BitVec.ofNat_toNat, BitVec.setWidth_eq]
  rw [show BitVec.ofInt 8 (IntKind.u8.max) = BitVec.allOnes 8 from by decide, BitVec.allOnes_xor]
theorem shll8 (x : BitVec 8) (yk : IntKind) (m : Nat) : Op.shift .shl .u8 (n8 x) yk (no_index (OfNat.ofNat m) : Int) = pure (.int .u8 (n8 (x <<< m))) := by
  have h0 : ¬ ((OfNat.ofNat m : Int) < 0) := by show ¬ ((m : Int) < 0); omega
  have ht : (OfNat.ofNat m : Int).toNat = m := rfl
  unfold Op.shift
  simp only [h0, if_false, ht]
  congr 1
  congr 1
  rw [wrap8]
  congr 1
  apply BitVec.eq_of_toNat_eq
  rw [BitVec.toNat_ofInt, BitVec.toNat_shiftLeft, Nat.shiftLeft_eq]
  unfold n8
  simp only [IntKind.bits]
  rcases Nat.lt_or_ge m 8 with h | h
  · rw [Nat.min_eq_left (by omega)]
    have : ((x.toNat : Int) * 2 ^ m) = ((x.toNat * 2 ^ m : Nat) : Int) := by simp
    rw [this]; omega
  · rw [Nat.min_eq_right (by omega)]
    obtain ⟨j, rfl⟩ : ∃ j, m = 8 + j := ⟨m - 8, by omega⟩
    rw [Nat.pow_add, ← Nat.mul_assoc, Nat.mul_right_comm, Nat.mul_mod_left]
    omega
theorem shrl8 (x : BitVec 8) (yk : IntKind) (m : Nat) : Op.shift .shr .u8 (n8 x) yk (no_index (OfNat.ofNat m) : Int) = pure (.int .u8 (n8 (x >>> m))) := by
  have h0 : ¬ ((OfNat.ofNat m : Int) < 0) := by show ¬ ((m : Int) < 0); omega
  have ht : (OfNat.ofNat m : Int).toNat = m := rfl
  unfold Op.shift
  simp only [h0, if_false, ht]
  congr 1
  congr 1
  unfold n8
  rw [BitVec.toNat_ushiftRight, Nat.shiftRight_eq_div_pow]
  simp only [IntKind.bits]
  have hx := x.isLt
  rcases Nat.lt_or_ge m 8 with h | h
  · rw [Nat.min_eq_left (by omega), Int.fdiv_eq_ediv_of_nonneg _ (Int.pow_nonneg (by decide))]
    simp
  · rw [Nat.min_eq_right (by omega)]
    have h1 : x.toNat / 2 ^ m = 0 := Nat.div_eq_of_lt (Nat.lt_of_lt_of_le hx (Nat.pow_le_pow_right (by decide) h))
    rw [h1, Int.fdiv_eq_ediv_of_nonneg _ (Int.pow_nonneg (by decide))]
    omega
theorem shlv8 (x : BitVec 8) (m : Nat) : IntKind.u8.wrap (n8 x * 2 ^ m) = n8 (x <<< m) := by
  rw [wrap8]
  congr 1
  apply BitVec.eq_of_toNat_eq
  rw [BitVec.toNat_ofInt, BitVec.toNat_shiftLeft, Nat.shiftLeft_eq]
  unfold n8
  have : ((x.toNat : Int) * 2 ^ m) = ((x.toNat * 2 ^ m : Nat) : Int) := by simp
  rw [this]; omega
theorem shrv8 (x : BitVec 8) (m : Nat) : n8 x / 2 ^ m = n8 (x >>> m) := by
  unfold n8
  rw [BitVec.toNat_ushiftRight, Nat.shiftRight_eq_div_pow]
  simp
theorem ex8 {n : Int} (h : (Lit.int .u8 n).wf = true) : ∃ x : BitVec 8, n = n8 x := by
  simp [Lit.wf, IntKind.min, IntKind.max, IntKind.signed, IntKind.bits] at h
  exact ⟨BitVec.ofInt 8 n, by unfold n8; rw [BitVec.toNat_ofInt]; omega⟩
theorem wf8 (x : BitVec 8) : (Lit.int .u8 (n8 x)).wf = true := WalkArith.wf_u8 ⟨n8_nonneg x, n8_le x⟩
theorem and8 (x y : BitVec 8) : bits .and .u8 (n8 x) (n8 y) = n8 (x &&& y) := by
  show IntKind.u8.wrap ((BitVec.ofInt 8 _ &&& BitVec.ofInt 8 _).toNat : Int) = _
  rw [of8, of8, ← n8_def, in8]
theorem andl8 (x : BitVec 8) (m : Nat) : bits .and .u8 (n8 x) (no_index (OfNat.ofNat m) : Int) = n8 (x &&& BitVec.ofNat 8 m) := by
  show IntKind.u8.wrap ((BitVec.ofInt 8 _ &&& BitVec.ofInt 8 _).toNat : Int) = _
  rw [of8, ofl8, ← n8_def, in8]
theorem or8 (x y : BitVec 8) : bits .or .u8 (n8 x) (n8 y) = n8 (x ||| y) := by
  show IntKind.u8.wrap ((BitVec.ofInt 8 _ ||| BitVec.ofInt 8 _).toNat : Int) = _
  rw [of8, of8, ← n8_def, in8]
theorem orl8 (x : BitVec 8) (m : Nat) : bits .or .u8 (n8 x) (no_index (OfNat.ofNat m) : Int) = n8 (x ||| BitVec.ofNat 8 m) := by
  show IntKind.u8.wrap ((BitVec.ofInt 8 _ ||| BitVec.ofInt 8 _).toNat : Int) = _
  rw [of8, ofl8, ← n8_def, in8]
theorem xor8 (x y : BitVec 8) : bits .xor .u8 (n8 x) (n8 y) = n8 (x ^^^ y) := by
  show IntKind.u8.wrap ((BitVec.ofInt 8 _ ^^^ BitVec.ofInt 8 _).toNat : Int) = _
  rw [of8, of8, ← n8_def, in8]
theorem xorl8 (x : BitVec 8) (m : Nat) : bits .xor .u8 (n8 x) (no_index (OfNat.ofNat m) : Int) = n8 (x ^^^ BitVec.ofNat 8 m) := by
  show IntKind.u8.wrap ((BitVec.ofInt 8 _ ^^^ BitVec.ofInt 8 _).toNat : Int) = _
  rw [of8, ofl8, ← n8_def, in8]
theorem andNot8 (x y : BitVec 8) : bits .andNot .u8 (n8 x) (n8 y) = n8 (x &&& ~~~y) := by
  show IntKind.u8.wrap ((BitVec.ofInt 8 _ &&& ~~~BitVec.ofInt 8 _).toNat : Int) = _
  rw [of8, of8, ← n8_def, in8]
theorem andNotl8 (x : BitVec 8) (m : Nat) : bits .andNot .u8 (n8 x) (no_index (OfNat.ofNat m) : Int) = n8 (x &&& ~~~BitVec.ofNat 8 m) := by
  show IntKind.u8.wrap ((BitVec.ofInt 8 _ &&& ~~~BitVec.ofInt 8 _).toNat : Int) = _
  rw [of8, ofl8, ← n8_def, in8]
abbrev b32 (x : BitVec 32) : Value := .int .u32 (n32 x)
theorem n32_def (x : BitVec 32) : n32 x = (x.toNat : Int) := rfl
theorem n32_nonneg (x : BitVec 32) : 0 ≤ n32 x := by unfold n32; omega
theorem n32_le (x : BitVec 32) : n32 x ≤ 4294967295 := by unfold n32; have := x.isLt; omega
theorem n32_inj {x y : BitVec 32} (h : n32 x = n32 y) : x = y := BitVec.eq_of_toNat_eq (by unfold n32 at h; omega)
theorem n32_eq (x y : BitVec 32) : (n32 x = n32 y) ↔ x = y := ⟨n32_inj, fun h => by rw [h]⟩
theorem n32_beq (x y : BitVec 32) : (n32 x == n32 y) = (x == y) := by rw [Bool.eq_iff_iff]; simp [n32_eq]
theorem n32_bne (x y : BitVec 32) : (n32 x != n32 y) = (x != y) := by simp only [bne, n32_beq]
theorem n32_lt (x y : BitVec 32) : (n32 x < n32 y) ↔ x < y := by unfold n32; rw [BitVec.lt_def]; omega
theorem wrap32 (n : Int) : IntKind.u32.wrap n = n32 (BitVec.ofInt 32 n) := by
  unfold n32; simp [IntKind.wrap, IntKind.bits, IntKind.signed, BitVec.toNat_ofInt]; omega
theorem of32 (x : BitVec 32) : BitVec.ofInt 32 (n32 x) = x := by unfold n32; rw [BitVec.ofInt_natCast]; simp
theorem ofl32 (m : Nat) : BitVec.ofInt 32 (OfNat.ofNat m : Int) = BitVec.ofNat 32 m := by
  show BitVec.ofInt 32 ((m : Nat) : Int) = _
  rw [BitVec.ofInt_natCast]
theorem lit32 (m : Nat) (h : m < 4294967296) : (OfNat.ofNat m : Int) = n32 (BitVec.ofNat 32 m) := by
  unfold n32; rw [BitVec.toNat_ofNat, Nat.mod_eq_of_lt h]; rfl
theorem in32 (x : BitVec 32) : IntKind.u32.wrap (n32 x) = n32 x := by rw [wrap32, of32]
theorem add32 (x y : BitVec 32) : IntKind.u32.wrap (n32 x + n32 y) = n32 (x + y) := by rw [wrap32, BitVec.ofInt_add, of32, of32]
theorem addl32 (x : BitVec 32) (m : Nat) : IntKind.u32.wrap (n32 x + (no_index (OfNat.ofNat m) : Int)) = n32 (x + BitVec.ofNat 32 m) := by rw [wrap32, BitVec.ofInt_add, of32, ofl32]
theorem sub32 (x y : BitVec 32) : IntKind.u32.wrap (n32 x - n32 y) = n32 (x - y) := by
  rw [wrap32, Int.sub_eq_add_neg, BitVec.ofInt_add, BitVec.ofInt_neg, of32, of32, BitVec.sub_eq_add_neg]
theorem subl32 (x : BitVec 32) (m : Nat) : IntKind.u32.wrap (n32 x - (no_index (OfNat.ofNat m) : Int)) = n32 (x - BitVec.ofNat 32 m) := by
  rw [wrap32, Int.sub_eq_add_neg, BitVec.ofInt_add, BitVec.ofInt_neg, of32, ofl32, BitVec.sub_eq_add_neg]
theorem neg32 (x : BitVec 32) : IntKind.u32.wrap (-n32 x) = n32 (-x) := by rw [wrap32, BitVec.ofInt_neg, of32]
theorem mul32 (x y : BitVec 32) : IntKind.u32.wrap (n32 x * n32 y) = n32 (x * y) := by rw [wrap32, BitVec.ofInt_mul, of32, of32]
theorem not32 (x : BitVec 32) : Op.unary .xor (.int .u32 (n32 x)) = pure (.int .u32 (n32 (~~~x))) := by
  show (pure (.int .u32 (IntKind.u32.wrap ((BitVec.ofInt 32 (IntKind.u32.max) ^^^ BitVec.ofInt 32 (n32 x)).toNat : Int))) : Sem Value) = _
  rw [of32, wrap32, BitVec.ofInt_natCast, BitVec.ofNat_toNat, BitVec.setWidth_eq]
  rw [show BitVec.ofInt 32 (IntKind.u32.max) = BitVec.allOnes 32 from by decide, BitVec.allOnes_xor]
theorem shll32 (x : BitVec 32) (yk : IntKind) (m : Nat) : Op.shift .shl .u32 (n32 x) yk (no_index (OfNat.ofNat m) : Int) = pure (.int .u32 (n32 (x <<< m))) := by
  have h0 : ¬ ((OfNat.ofNat m : Int) < 0) := by show ¬ ((m : Int) < 0); omega
  have ht : (OfNat.ofNat m : Int).toNat = m := rfl
  unfold Op.shift
  simp only [h0, if_false, ht]
  congr 1
  congr 1
  rw [wrap32]
  congr 1
  apply BitVec.eq_of_toNat_eq
  rw [BitVec.toNat_ofInt, BitVec.toNat_shiftLeft, Nat.shiftLeft_eq]
  unfold n32
  simp only [IntKind.bits]
  rcases Nat.lt_or_ge m 32 with h | h
  · rw [Nat.min_eq_left (by omega)]
    have : ((x.toNat : Int) * 2 ^ m) = ((x.toNat * 2 ^ m : Nat) : Int) := by simp
    rw [this]; omega
  · rw [Nat.min_eq_right (by omega)]
    obtain ⟨j, rfl⟩ : ∃ j, m = 32 + j := ⟨m - 32, by omega⟩
    rw [Nat.pow_add, ← Nat.mul_assoc, Nat.mul_right_comm, Nat.mul_mod_left]
    omega
theorem shrl32 (x : BitVec 32) (yk : IntKind) (m : Nat) : Op.shift .shr .u32 (n32 x) yk (no_index (OfNat.ofNat m) : Int) = pure (.int .u32 (n32 (x >>> m))) := by
  have h0 : ¬ ((OfNat.ofNat m : Int) < 0) := by show ¬ ((m : Int) < 0); omega
  have ht : (OfNat.ofNat m : Int).toNat = m := rfl
  unfold Op.shift
  simp only [h0, if_false, ht]
  congr 1
  congr 1
  unfold n32
  rw [BitVec.toNat_ushiftRight, Nat.shiftRight_eq_div_pow]
  simp only [IntKind.bits]
  have hx := x.isLt
  rcases Nat.lt_or_ge m 32 with h | h
  · rw [Nat.min_eq_left (by omega), Int.fdiv_eq_ediv_of_nonneg _ (Int.pow_nonneg (by decide))]
    simp
  · rw [Nat.min_eq_right (by omega)]
    have h1 : x.toNat / 2 ^ m = 0 := Nat.div_eq_of_lt (Nat.lt_of_lt_of_le hx (Nat.pow_le_pow_right (by decide) h))
    rw [h1, Int.fdiv_eq_ediv_of_nonneg _ (Int.pow_nonneg (by decide))]
    omega
theorem shlv32 (x : BitVec 32) (m : Nat) : IntKind.u32.wrap (n32 x * 2 ^ m) = n32 (x <<< m) := by
  rw [wrap32]
  congr 1
  apply BitVec.eq_of_toNat_eq
  rw [BitVec.toNat_ofInt, BitVec.toNat_shiftLeft, Nat.shiftLeft_eq]
  unfold n32
  have : ((x.toNat : Int) * 2 ^ m) = ((x.toNat * 2 ^ m : Nat) : Int) := by simp
  rw [this]; omega
theorem shrv32 (x : BitVec 32) (m : Nat) : n32 x / 2 ^ m = n32 (x >>> m) := by
  unfold n32
  rw [BitVec.toNat_ushiftRight, Nat.shiftRight_eq_div_pow]
  simp
theorem ex32 {n : Int} (h : (Lit.int .u32 n).wf = true) : ∃ x : BitVec 32, n = n32 x := by
  simp [Lit.wf, IntKind.min, IntKind.max, IntKind.signed, IntKind.bits] at h
  exact ⟨BitVec.ofInt 32 n, by unfold n32; rw [BitVec.toNat_ofInt]; omega⟩
theorem wf32 (x : BitVec 32) : (Lit.int .u32 (n32 x)).wf = true := WalkArith.wf_u32 ⟨n32_nonneg x, n32_le x⟩
theorem and32 (x y : BitVec 32) : bits .and .u32 (n32 x) (n32 y) = n32 (x &&& y) := by
  show IntKind.u32.wrap ((BitVec.ofInt 32 _ &&& BitVec.ofInt 32 _).toNat : Int) = _
  rw [of32, of32, ← n32_def, in32]
theorem andl32 (x : BitVec 32) (m : Nat) : bits .and .u32 (n32 x) (no_index (OfNat.ofNat m) : Int) = n32 (x &&& BitVec.ofNat 32 m) := by
  show IntKind.u32.wrap ((BitVec.ofInt 32 _ &&& BitVec.ofInt 32 _).toNat : Int) = _
  rw [of32, ofl32, ← n32_def, in32]
theorem or32 (x y : BitVec 32) : bits .or .u32 (n32 x) (n32 y) = n32 (x ||| y) := by
  show IntKind.u32.wrap ((BitVec.ofInt 32 _ ||| BitVec.ofInt 32 _).toNat : Int) = _
  rw [of32, of32, ← n32_def, in32]
theorem orl32 (x : BitVec 32) (m : Nat) : bits .or .u32 (n32 x) (no_index (OfNat.ofNat m) : Int) = n32 (x ||| BitVec.ofNat 32 m) := by
  show IntKind.u32.wrap ((BitVec.ofInt 32 _ ||| BitVec.ofInt 32 _).toNat : Int) = _
  rw [of32, ofl32, ← n32_def, in32]
theorem xor32 (x y : BitVec 32) : bits .xor .u32 (n32 x) (n32 y) = n32 (x ^^^ y) := by
  show IntKind.u32.wrap ((BitVec.ofInt 32 _ ^^^ BitVec.ofInt 32 _).toNat : Int) = _
  rw [of32, of32, ← n32_def, in32]
theorem xorl32 (x : BitVec 32) (m : Nat) : bits .xor .u32 (n32 x) (no_index (OfNat.ofNat m) : Int) = n32 (x ^^^ BitVec.ofNat 32 m) := by
  show IntKind.u32.wrap ((BitVec.ofInt 32 _ ^^^ BitVec.ofInt 32 _).toNat : Int) = _
  rw [of32, ofl32, ← n32_def, in32]
theorem andNot32 (x y : BitVec 32) : bits .andNot .u32 (n32 x) (n32 y) = n32 (x &&& ~~~y) := by
  show IntKind.u32.wrap ((BitVec.ofInt 32 _ &&& ~~~BitVec.ofInt 32 _).toNat : Int) = _
  rw [of32, of32, ← n32_def, in32]
theorem andNotl32 (x : BitVec 32) (m : Nat) : bits .andNot .u32 (n32 x) (no_index (OfNat.ofNat m) : Int) = n32 (x &&& ~~~BitVec.ofNat 32 m) := by
  show IntKind.u32.wrap ((BitVec.ofInt 32 _ &&& ~~~BitVec.ofInt 32 _).toNat : Int) = _
  rw [of32, ofl32, ← n32_def, in32]
abbrev b64 (x : BitVec 64) : Value := .int .u64 (n64 x)
theorem n64_def (x : BitVec 64) : n64 x = (x.toNat : Int) := rfl
theorem n64_nonneg (x : BitVec 64) : 0 ≤ n64 x := by unfold n64; omega
theorem n64_le (x : BitVec 64) : n64 x ≤ 18446744073709551615 := by unfold n64; have := x.isLt; omega
theorem n64_inj {x y : BitVec 64} (h : n64 x = n64 y) : x = y := BitVec.eq_of_toNat_eq (by unfold n64 at h; omega)
theorem n64_eq (x y : BitVec 64) : (n64 x = n64 y) ↔ x = y := ⟨n64_inj, fun h => by rw [h]⟩
theorem n64_beq (x y : BitVec 64) : (n64 x == n64 y) = (x == y) := by rw [Bool.eq_iff_iff]; simp [n64_eq]
theorem n64_bne (x y : BitVec 64) : (n64 x != n64 y) = (x != y) := by simp only [bne, n64_beq]
theorem n64_lt (x y : BitVec 64) : (n64 x < n64 y) ↔ x < y := by unfold n64; rw [BitVec.lt_def]; omega
theorem wrap64 (n : Int) : IntKind.u64.wrap n = n64 (BitVec.ofInt 64 n) := by
  unfold n64; simp [IntKind.wrap, IntKind.bits, IntKind.signed, BitVec.toNat_ofInt]; omega
theorem of64 (x : BitVec 64) : BitVec.ofInt 64 (n64 x) = x := by unfold n64; rw [BitVec.ofInt_natCast]; simp
theorem ofl64 (m : Nat) : BitVec.ofInt 64 (OfNat.ofNat m : Int) = BitVec.ofNat 64 m := by
  show BitVec.ofInt 64 ((m : Nat) : Int) = _
  rw [BitVec.ofInt_natCast]
theorem lit64 (m : Nat) (h : m < 18446744073709551616) : (OfNat.ofNat m : Int) = n64 (BitVec.ofNat 64 m) := by
  unfold n64; rw [BitVec.toNat_ofNat, Nat.mod_eq_of_lt h]; rfl
theorem in64 (x : BitVec 64) : IntKind.u64.wrap (n64 x) = n64 x := by rw [wrap64, of64]
theorem add64 (x y : BitVec 64) : IntKind.u64.wrap (n64 x + n64 y) = n64 (x + y) := by rw [wrap64, BitVec.ofInt_add, of64, of64]
theorem addl64 (x : BitVec 64) (m : Nat) : IntKind.u64.wrap (n64 x + (no_index (OfNat.ofNat m) : Int)) = n64 (x + BitVec.ofNat 64 m) := by rw [wrap64, BitVec.ofInt_add, of64, ofl64]
theorem sub64 (x y : BitVec 64) : IntKind.u64.wrap (n64 x - n64 y) = n64 (x - y) := by
  rw [wrap64, Int.sub_eq_add_neg, BitVec.ofInt_add, BitVec.ofInt_neg, of64, of64, BitVec.sub_eq_add_neg]
theorem subl64 (x : BitVec 64) (m : Nat) : IntKind.u64.wrap (n64 x - (no_index (OfNat.ofNat m) : Int)) = n64 (x - BitVec.ofNat 64 m) := by
  rw [wrap64, Int.sub_eq_add_neg, BitVec.ofInt_add, BitVec.ofInt_neg, of64, ofl64, BitVec.sub_eq_add_neg]
theorem neg64 (x : BitVec 64) : IntKind.u64.wrap (-n64 x) = n64 (-x) := by rw [wrap64, BitVec.ofInt_neg, of64]
theorem mul64 (x y : BitVec 64) : IntKind.u64.wrap (n64 x * n64 y) = n64 (x * y) := by rw [wrap64, BitVec.ofInt_mul, of64, of64]
theorem not64 (x : BitVec 64) : Op.unary .xor (.int .u64 (n64 x)) = pure (.int .u64 (n64 (~~~x))) := by
  show (pure (.int .u64 (IntKind.u64.wrap ((BitVec.ofInt 64 (IntKind.u64.max) ^^^ BitVec.ofInt 64 (n64 x)).toNat : Int))) : Sem Value) = _
  rw [of64, wrap64, BitVec.ofInt_natCast, BitVec.ofNat_toNat, BitVec.setWidth_eq]
  rw [show BitVec.ofInt 64 (IntKind.u64.max) = BitVec.allOnes 64 from by decide, BitVec.allOnes_xor]
theorem shll64 (x : BitVec 64) (yk : IntKind) (m : Nat) : Op.shift .shl .u64 (n64 x) yk (no_index (OfNat.ofNat m) : Int) = pure (.int .u64 (n64 (x <<< m))) := by
  have h0 : ¬ ((OfNat.ofNat m : Int) < 0) := by show ¬ ((m : Int) < 0); omega
  have ht : (OfNat.ofNat m : Int).toNat = m := rfl
  unfold Op.shift
  simp only [h0, if_false, ht]
  congr 1
  congr 1
  rw [wrap64]
  congr 1
  apply BitVec.eq_of_toNat_eq
  rw [BitVec.toNat_ofInt, BitVec.toNat_shiftLeft, Nat.shiftLeft_eq]
  unfold n64
  simp only [IntKind.bits]
  rcases Nat.lt_or_ge m 64 with h | h
  · rw [Nat.min_eq_left (by omega)]
    have : ((x.toNat : Int) * 2 ^ m) = ((x.toNat * 2 ^ m : Nat) : Int) := by simp
    rw [this]; omega
  · rw [Nat.min_eq_right (by omega)]
    obtain ⟨j, rfl⟩ : ∃ j, m = 64 + j := ⟨m - 64, by omega⟩
    rw [Nat.pow_add, ← Nat.mul_assoc, Nat.mul_right_comm, Nat.mul_mod_left]
    omega
theorem shrl64 (x : BitVec 64) (yk : IntKind) (m : Nat) : Op.shift .shr .u64 (n64 x) yk (no_index (OfNat.ofNat m) : Int) = pure (.int .u64 (n64 (x >>> m))) := by
  have h0 : ¬ ((OfNat.ofNat m : Int) < 0) := by show ¬ ((m : Int) < 0); omega
  have ht : (OfNat.ofNat m : Int).toNat = m := rfl
  unfold Op.shift
  simp only [h0, if_false, ht]
  congr 1
  congr 1
  unfold n64
  rw [BitVec.toNat_ushiftRight, Nat.shiftRight_eq_div_pow]
  simp only [IntKind.bits]
  have hx := x.isLt
  rcases Nat.lt_or_ge m 64 with h | h
  · rw [Nat.min_eq_left (by omega), Int.fdiv_eq_ediv_of_nonneg _ (Int.pow_nonneg (by decide))]
    simp
  · rw [Nat.min_eq_right (by omega)]
    have h1 : x.toNat / 2 ^ m = 0 := Nat.div_eq_of_lt (Nat.lt_of_lt_of_le hx (Nat.pow_le_pow_right (by decide) h))
    rw [h1, Int.fdiv_eq_ediv_of_nonneg _ (Int.pow_nonneg (by decide))]
    omega
theorem shlv64 (x : BitVec 64) (m : Nat) : IntKind.u64.wrap (n64 x * 2 ^ m) = n64 (x <<< m) := by
  rw [wrap64]
  congr 1
  apply BitVec.eq_of_toNat_eq
  rw [BitVec.toNat_ofInt, BitVec.toNat_shiftLeft, Nat.shiftLeft_eq]
  unfold n64
  have : ((x.toNat : Int) * 2 ^ m) = ((x.toNat * 2 ^ m : Nat) : Int) := by simp
  rw [this]; omega
theorem shrv64 (x : BitVec 64) (m : Nat) : n64 x / 2 ^ m = n64 (x >>> m) := by
  unfold n64
  rw [BitVec.toNat_ushiftRight, Nat.shiftRight_eq_div_pow]
  simp
theorem ex64 {n : Int} (h : (Lit.int .u64 n).wf = true) : ∃ x : BitVec 64, n = n64 x := by
  simp [Lit.wf, IntKind.min, IntKind.max, IntKind.signed, IntKind.bits] at h
  exact ⟨BitVec.ofInt 64 n, by unfold n64; rw [BitVec.toNat_ofInt]; omega⟩
theorem wf64 (x : BitVec 64) : (Lit.int .u64 (n64 x)).wf = true := WalkArith.wf_u64 ⟨n64_nonneg x, n64_le x⟩
theorem and64 (x y : BitVec 64) : bits .and .u64 (n64 x) (n64 y) = n64 (x &&& y) := by
  show IntKind.u64.wrap ((BitVec.ofInt 64 _ &&& BitVec.ofInt 64 _).toNat : Int) = _
  rw [of64, of64, ← n64_def, in64]
theorem andl64 (x : BitVec 64) (m : Nat) : bits .and .u64 (n64 x) (no_index (OfNat.ofNat m) : Int) = n64 (x &&& BitVec.ofNat 64 m) := by
  show IntKind.u64.wrap ((BitVec.ofInt 64 _ &&& BitVec.ofInt 64 _).toNat : Int) = _
  rw [of64, ofl64, ← n64_def, in64]
theorem or64 (x y : BitVec 64) : bits .or .u64 (n64 x) (n64 y) = n64 (x ||| y) := by
  show IntKind.u64.wrap ((BitVec.ofInt 64 _ ||| BitVec.ofInt 64 _).toNat : Int) = _
  rw [of64, of64, ← n64_def, in64]
theorem orl64 (x : BitVec 64) (m : Nat) : bits .or .u64 (n64 x) (no_index (OfNat.ofNat m) : Int) = n64 (x ||| BitVec.ofNat 64 m) := by
  show IntKind.u64.wrap ((BitVec.ofInt 64 _ ||| BitVec.ofInt 64 _).toNat : Int) = _
  rw [of64, ofl64, ← n64_def, in64]
theorem xor64 (x y : BitVec 64) : bits .xor .u64 (n64 x) (n64 y) = n64 (x ^^^ y) := by
  show IntKind.u64.wrap ((BitVec.ofInt 64 _ ^^^ BitVec.ofInt 64 _).toNat : Int) = _
  rw [of64, of64, ← n64_def, in64]
theorem xorl64 (x : BitVec 64) (m : Nat) : bits .xor .u64 (n64 x) (no_index (OfNat.ofNat m) : Int) = n64 (x ^^^ BitVec.ofNat 64 m) := by
  show IntKind.u64.wrap ((BitVec.ofInt 64 _ ^^^ BitVec.ofInt 64 _).toNat : Int) = _
  rw [of64, ofl64, ← n64_def, in64]
theorem andNot64 (x y : BitVec 64) : bits .andNot .u64 (n64 x) (n64 y) = n64 (x &&& ~~~y) := by
  show IntKind.u64.wrap ((BitVec.ofInt 64 _ &&& ~~~BitVec.ofInt 64 _).toNat : Int) = _
  rw [of64, of64, ← n64_def, in64]
theorem andNotl64 (x : BitVec 64) (m : Nat) : bits .andNot .u64 (n64 x) (no_index (OfNat.ofNat m) : Int) = n64 (x &&& ~~~BitVec.ofNat 64 m) := by
  show IntKind.u64.wrap ((BitVec.ofInt 64 _ &&& ~~~BitVec.ofInt 64 _).toNat : Int) = _
  rw [of64, ofl64, ← n64_def, in64]
theorem cv8_32 (x : BitVec 8) : IntKind.u32.wrap (n8 x) = n32 (x.setWidth 32) := by
  rw [wrap32]; unfold n8 n32; rw [BitVec.ofInt_natCast, BitVec.toNat_ofNat, BitVec.toNat_setWidth]
theorem cv8_64 (x : BitVec 8) : IntKind.u64.wrap (n8 x) = n64 (x.setWidth 64) := by
  rw [wrap64]; unfold n8 n64; rw [BitVec.ofInt_natCast, BitVec.toNat_ofNat, BitVec.toNat_setWidth]
theorem cv32_8 (x : BitVec 32) : IntKind.u8.wrap (n32 x) = n8 (x.setWidth 8) := by
  rw [wrap8]; unfold n32 n8; rw [BitVec.ofInt_natCast, BitVec.toNat_ofNat, BitVec.toNat_setWidth]
theorem cv32_64 (x : BitVec 32) : IntKind.u64.wrap (n32 x) = n64 (x.setWidth 64) := by
  rw [wrap64]; unfold n32 n64; rw [BitVec.ofInt_natCast, BitVec.toNat_ofNat, BitVec.toNat_setWidth]
theorem cv64_8 (x : BitVec 64) : IntKind.u8.wrap (n64 x) = n8 (x.setWidth 8) := by
  rw [wrap8]; unfold n64 n8; rw [BitVec.ofInt_natCast, BitVec.toNat_ofNat, BitVec.toNat_setWidth]
theorem cv64_32 (x : BitVec 64) : IntKind.u32.wrap (n64 x) = n32 (x.setWidth 32) := by
  rw [wrap32]; unfold n64 n32; rw [BitVec.ofInt_natCast, BitVec.toNat_ofNat, BitVec.toNat_setWidth]
theorem i64_u64 (x : BitVec 64) : IntKind.u64.wrap (i64 x) = n64 x := by rw [wrap64]; unfold i64; rw [BitVec.ofInt_toInt]
theorem exi64 {n : Int} (h : (Lit.int .i64 n).wf = true) : ∃ x : BitVec 64, n = i64 x := by
  simp [Lit.wf, IntKind.min, IntKind.max, IntKind.signed, IntKind.bits] at h
  exact ⟨BitVec.ofInt 64 n, by unfold i64; rw [BitVec.toInt_ofInt_eq_self (by decide) (by simp; omega) (by simp; omega)]⟩
theorem i64_in {n : Int} (h : (Lit.int .i64 n).wf = true) : -9223372036854775808 ≤ n ∧ n ≤ 9223372036854775807 := by
  simp [Lit.wf, IntKind.min, IntKind.max, IntKind.signed, IntKind.bits] at h
  exact h
theorem i64_lo (x : BitVec 64) : -9223372036854775808 ≤ i64 x := by unfold i64; have := BitVec.le_toInt x; simpa using this
theorem i64_hi (x : BitVec 64) : i64 x ≤ 9223372036854775807 := by unfold i64; have := @BitVec.toInt_lt 64 x; simp at this; omega
theorem i64_lt (x y : BitVec 64) : (i64 x < i64 y) ↔ x.slt y = true := by unfold i64; simp [BitVec.slt]
end Go.Proofs.Ytlplpmkdebemnaa.Bv
