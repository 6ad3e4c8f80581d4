/- Walks by facts, part 1: what the functions that the law reaches answer. No conditions but lengths. -/
import Derived.WalkKit
import Derived.Lib.Hide
import Derived.Below
import Derived.ChangeShapes
import Derived.OpenShut
import Derived.Deep.QuietTactic
import Derived.OwnWalk
import Derived.Laws.AppendOwnNone
import Derived.Laws.CopyOwn
import Derived.Laws.OwnMore
import Derived.Maps.AppendAt
import Derived.RangeFuncNested
import Derived.RangeFuncCalls
import Derived.OrdersIn
import Derived.Laws.Rows
import Derived.Laws.Tables
import Derived.Still
import Derived.Orders
import Derived.KernelRfl
import Derived.Shelf.Abstract
import Derived.Scope
import Derived.RangeFuncLeaves
import Derived.OrdersHeld
import Derived.Laws.MakeOwn
import Derived.Laws.AppendOwn
import Derived.Laws.CopyRow
namespace Go.Proofs.YtlplpmkdebemnaaGreat
theorem pN {p : Prop} (h : p := by first | trivial | ((try dsimp only); first | omega | (refine ⟨?_, ?_⟩ <;> omega) | (refine ⟨?_, ?_, ?_⟩ <;> omega) | (simp; done) | (simp; omega))) : p := h
theorem qN {p : Prop} (h : p := by first | trivial | omega | (simp; done)) : p := h
theorem aS {p : Prop} (h : p := by assumption) : p := h
theorem oM {p : Prop} (h : p := by omega) : p := h
end Go.Proofs.YtlplpmkdebemnaaGreat
set_option linter.unusedVariables false
set_option linter.unusedSimpArgs false
set_option linter.unnecessarySimpa false
namespace Go.Proofs.YtlplpmkdebemnaaGreat.Bv
open Go.RowKit
def n8 (x : BitVec 8) : Int := (x.toNat : Int)
def n32 (x : BitVec 32) : Int := (x.toNat : Int)
def n64 (x : BitVec 64) : Int := (x.toNat : Int)
def i64 (x : BitVec 64) : Int := x.toInt
abbrev b8 (x : BitVec 8) : Value := .int .u8 (n8 x)
theorem n8_def (x : BitVec 8) : n8 x = (x.toNat : Int) := rfl
theorem n8_inj {x y : BitVec 8} (h : n8 x = n8 y) : x = y := BitVec.eq_of_toNat_eq (by unfold n8 at h; omega)
theorem n8_eq (x y : BitVec 8) : (n8 x = n8 y) ↔ x = y := ⟨n8_inj, fun h => by rw [h]⟩
theorem n8_beq (x y : BitVec 8) : (n8 x == n8 y) = (x == y) := by rw [Bool.eq_iff_iff]; simp [n8_eq]
theorem wrap8 (n : Int) : IntKind.u8.wrap n = n8 (BitVec.ofInt 8 n) := by
  unfold n8; simp [IntKind.wrap, IntKind.bits, IntKind.signed, BitVec.toNat_ofInt]; omega
theorem of8 (x : BitVec 8) : BitVec.ofInt 8 (n8 x) = x := by unfold n8; rw [BitVec.ofInt_natCast]; simp
theorem in8 (x : BitVec 8) : IntKind.u8.wrap (n8 x) = n8 x := by rw [wrap8, of8]
theorem shll8 (x : BitVec 8) (yk : IntKind) (m : Nat) : Op.shift .shl .u8 (n8 x) yk (no_index (OfNat.ofNat m) : Int) = pure (.int .u8 (n8 (x <<< m))) := by
  have h0 : ¬ ((OfNat.ofNat m : Int) < 0) := by show ¬ ((m : Int) < 0); omega
  have ht : (OfNat.ofNat m : Int).toNat = m := rfl
  unfold Op.shift
  simp only [h0, if_false, ht]
  congr 1
  congr 1
  rw [wrap8]
  congr 1
  apply BitVec.eq_of_toNat_eq
  rw [BitVec.toNat_ofInt, BitVec.toNat_shiftLeft, Nat.shiftLeft_eq]
  unfold n8
  simp only [IntKind.bits]
  rcases Nat.lt_or_ge m 8 with h | h
  · rw [Nat.min_eq_left oM]
    have : ((x.toNat : Int) * 2 ^ m) = ((x.toNat * 2 ^ m : Nat) : Int) := by simp
    rw [this]; omega
  · rw [Nat.min_eq_right oM]
    obtain ⟨j, rfl⟩ : ∃ j, m = 8 + j := ⟨m - 8, by omega⟩
    rw [Nat.pow_add, ← Nat.mul_assoc, Nat.mul_right_comm, Nat.mul_mod_left]
    omega
theorem ex8 {n : Int} (h : (Lit.int .u8 n).wf = true) : ∃ x : BitVec 8, n = n8 x := by
  simp [Lit.wf, IntKind.min, IntKind.max, IntKind.signed, IntKind.bits] at h
  exact ⟨BitVec.ofInt 8 n, by unfold n8; rw [BitVec.toNat_ofInt]; omega⟩
theorem and8 (x y : BitVec 8) : bits .and .u8 (n8 x) (n8 y) = n8 (x &&& y) := by
  show IntKind.u8.wrap ((BitVec.ofInt 8 _ &&& BitVec.ofInt 8 _).toNat : Int) = _
  rw [of8, of8, ← n8_def, in8]
theorem or8 (x y : BitVec 8) : bits .or .u8 (n8 x) (n8 y) = n8 (x ||| y) := by
  show IntKind.u8.wrap ((BitVec.ofInt 8 _ ||| BitVec.ofInt 8 _).toNat : Int) = _
  rw [of8, of8, ← n8_def, in8]
theorem xor8 (x y : BitVec 8) : bits .xor .u8 (n8 x) (n8 y) = n8 (x ^^^ y) := by
  show IntKind.u8.wrap ((BitVec.ofInt 8 _ ^^^ BitVec.ofInt 8 _).toNat : Int) = _
  rw [of8, of8, ← n8_def, in8]
abbrev b32 (x : BitVec 32) : Value := .int .u32 (n32 x)
theorem n32_def (x : BitVec 32) : n32 x = (x.toNat : Int) := rfl
theorem n32_lt (x y : BitVec 32) : (n32 x < n32 y) ↔ x < y := by unfold n32; rw [BitVec.lt_def]; omega
theorem wrap32 (n : Int) : IntKind.u32.wrap n = n32 (BitVec.ofInt 32 n) := by
  unfold n32; simp [IntKind.wrap, IntKind.bits, IntKind.signed, BitVec.toNat_ofInt]; omega
theorem of32 (x : BitVec 32) : BitVec.ofInt 32 (n32 x) = x := by unfold n32; rw [BitVec.ofInt_natCast]; simp
theorem in32 (x : BitVec 32) : IntKind.u32.wrap (n32 x) = n32 x := by rw [wrap32, of32]
theorem add32 (x y : BitVec 32) : IntKind.u32.wrap (n32 x + n32 y) = n32 (x + y) := by rw [wrap32, BitVec.ofInt_add, of32, of32]
theorem sub32 (x y : BitVec 32) : IntKind.u32.wrap (n32 x - n32 y) = n32 (x - y) := by
  rw [wrap32, Int.sub_eq_add_neg, BitVec.ofInt_add, BitVec.ofInt_neg, of32, of32, BitVec.sub_eq_add_neg]
theorem mul32 (x y : BitVec 32) : IntKind.u32.wrap (n32 x * n32 y) = n32 (x * y) := by rw [wrap32, BitVec.ofInt_mul, of32, of32]
theorem not32 (x : BitVec 32) : Op.unary .xor (.int .u32 (n32 x)) = pure (.int .u32 (n32 (~~~x))) := by
  show (pure (.int .u32 (IntKind.u32.wrap ((BitVec.ofInt 32 (IntKind.u32.max) ^^^ BitVec.ofInt 32 (n32 x)).toNat : Int))) : Sem Value) = _
  rw [of32, wrap32, BitVec.ofInt_natCast, BitVec.ofNat_toNat, BitVec.setWidth_eq]
  rw [show BitVec.ofInt 32 (IntKind.u32.max) = BitVec.allOnes 32 from by decide, BitVec.allOnes_xor]
theorem shll32 (x : BitVec 32) (yk : IntKind) (m : Nat) : Op.shift .shl .u32 (n32 x) yk (no_index (OfNat.ofNat m) : Int) = pure (.int .u32 (n32 (x <<< m))) := by
  have h0 : ¬ ((OfNat.ofNat m : Int) < 0) := by show ¬ ((m : Int) < 0); omega
  have ht : (OfNat.ofNat m : Int).toNat = m := rfl
  unfold Op.shift
  simp only [h0, if_false, ht]
  congr 1
  congr 1
  rw [wrap32]
  congr 1
  apply BitVec.eq_of_toNat_eq
  rw [BitVec.toNat_ofInt, BitVec.toNat_shiftLeft, Nat.shiftLeft_eq]
  unfold n32
  simp only [IntKind.bits]
  rcases Nat.lt_or_ge m 32 with h | h
  · rw [Nat.min_eq_left oM]
    have : ((x.toNat : Int) * 2 ^ m) = ((x.toNat * 2 ^ m : Nat) : Int) := by simp
    rw [this]; omega
  · rw [Nat.min_eq_right oM]
    obtain ⟨j, rfl⟩ : ∃ j, m = 32 + j := ⟨m - 32, by omega⟩
    rw [Nat.pow_add, ← Nat.mul_assoc, Nat.mul_right_comm, Nat.mul_mod_left]
    omega
theorem shrl32 (x : BitVec 32) (yk : IntKind) (m : Nat) : Op.shift .shr .u32 (n32 x) yk (no_index (OfNat.ofNat m) : Int) = pure (.int .u32 (n32 (x >>> m))) := by
  have h0 : ¬ ((OfNat.ofNat m : Int) < 0) := by show ¬ ((m : Int) < 0); omega
  have ht : (OfNat.ofNat m : Int).toNat = m := rfl
  unfold Op.shift
  simp only [h0, if_false, ht]
  congr 1
  congr 1
  unfold n32
  rw [BitVec.toNat_ushiftRight, Nat.shiftRight_eq_div_pow]
  simp only [IntKind.bits]
  have hx := x.isLt
  rcases Nat.lt_or_ge m 32 with h | h
  · rw [Nat.min_eq_left oM, Int.fdiv_eq_ediv_of_nonneg _ (Int.pow_nonneg (by decide))]
    simp
  · rw [Nat.min_eq_right oM]
    have h1 : x.toNat / 2 ^ m = 0 := Nat.div_eq_of_lt (Nat.lt_of_lt_of_le hx (Nat.pow_le_pow_right (by decide) h))
    rw [h1, Int.fdiv_eq_ediv_of_nonneg _ (Int.pow_nonneg (by decide))]
    omega
theorem and32 (x y : BitVec 32) : bits .and .u32 (n32 x) (n32 y) = n32 (x &&& y) := by
  show IntKind.u32.wrap ((BitVec.ofInt 32 _ &&& BitVec.ofInt 32 _).toNat : Int) = _
  rw [of32, of32, ← n32_def, in32]
theorem or32 (x y : BitVec 32) : bits .or .u32 (n32 x) (n32 y) = n32 (x ||| y) := by
  show IntKind.u32.wrap ((BitVec.ofInt 32 _ ||| BitVec.ofInt 32 _).toNat : Int) = _
  rw [of32, of32, ← n32_def, in32]
theorem xor32 (x y : BitVec 32) : bits .xor .u32 (n32 x) (n32 y) = n32 (x ^^^ y) := by
  show IntKind.u32.wrap ((BitVec.ofInt 32 _ ^^^ BitVec.ofInt 32 _).toNat : Int) = _
  rw [of32, of32, ← n32_def, in32]
abbrev b64 (x : BitVec 64) : Value := .int .u64 (n64 x)
theorem n64_def (x : BitVec 64) : n64 x = (x.toNat : Int) := rfl
theorem n64_inj {x y : BitVec 64} (h : n64 x = n64 y) : x = y := BitVec.eq_of_toNat_eq (by unfold n64 at h; omega)
theorem n64_eq (x y : BitVec 64) : (n64 x = n64 y) ↔ x = y := ⟨n64_inj, fun h => by rw [h]⟩
theorem n64_beq (x y : BitVec 64) : (n64 x == n64 y) = (x == y) := by rw [Bool.eq_iff_iff]; simp [n64_eq]
theorem n64_bne (x y : BitVec 64) : (n64 x != n64 y) = (x != y) := by simp only [bne, n64_beq]
theorem n64_lt (x y : BitVec 64) : (n64 x < n64 y) ↔ x < y := by unfold n64; rw [BitVec.lt_def]; omega
theorem wrap64 (n : Int) : IntKind.u64.wrap n = n64 (BitVec.ofInt 64 n) := by
  unfold n64; simp [IntKind.wrap, IntKind.bits, IntKind.signed, BitVec.toNat_ofInt]; omega
theorem of64 (x : BitVec 64) : BitVec.ofInt 64 (n64 x) = x := by unfold n64; rw [BitVec.ofInt_natCast]; simp
theorem in64 (x : BitVec 64) : IntKind.u64.wrap (n64 x) = n64 x := by rw [wrap64, of64]
theorem add64 (x y : BitVec 64) : IntKind.u64.wrap (n64 x + n64 y) = n64 (x + y) := by rw [wrap64, BitVec.ofInt_add, of64, of64]
theorem sub64 (x y : BitVec 64) : IntKind.u64.wrap (n64 x - n64 y) = n64 (x - y) := by
  rw [wrap64, Int.sub_eq_add_neg, BitVec.ofInt_add, BitVec.ofInt_neg, of64, of64, BitVec.sub_eq_add_neg]
theorem neg64 (x : BitVec 64) : IntKind.u64.wrap (-n64 x) = n64 (-x) := by rw [wrap64, BitVec.ofInt_neg, of64]
theorem mul64 (x y : BitVec 64) : IntKind.u64.wrap (n64 x * n64 y) = n64 (x * y) := by rw [wrap64, BitVec.ofInt_mul, of64, of64]
theorem shll64 (x : BitVec 64) (yk : IntKind) (m : Nat) : Op.shift .shl .u64 (n64 x) yk (no_index (OfNat.ofNat m) : Int) = pure (.int .u64 (n64 (x <<< m))) := by
  have h0 : ¬ ((OfNat.ofNat m : Int) < 0) := by show ¬ ((m : Int) < 0); omega
  have ht : (OfNat.ofNat m : Int).toNat = m := rfl
  unfold Op.shift
  simp only [h0, if_false, ht]
  congr 1
  congr 1
  rw [wrap64]
  congr 1
  apply BitVec.eq_of_toNat_eq
  rw [BitVec.toNat_ofInt, BitVec.toNat_shiftLeft, Nat.shiftLeft_eq]
  unfold n64
  simp only [IntKind.bits]
  rcases Nat.lt_or_ge m 64 with h | h
  · rw [Nat.min_eq_left oM]
    have : ((x.toNat : Int) * 2 ^ m) = ((x.toNat * 2 ^ m : Nat) : Int) := by simp
    rw [this]; omega
  · rw [Nat.min_eq_right oM]
    obtain ⟨j, rfl⟩ : ∃ j, m = 64 + j := ⟨m - 64, by omega⟩
    rw [Nat.pow_add, ← Nat.mul_assoc, Nat.mul_right_comm, Nat.mul_mod_left]
    omega
theorem shrl64 (x : BitVec 64) (yk : IntKind) (m : Nat) : Op.shift .shr .u64 (n64 x) yk (no_index (OfNat.ofNat m) : Int) = pure (.int .u64 (n64 (x >>> m))) := by
  have h0 : ¬ ((OfNat.ofNat m : Int) < 0) := by show ¬ ((m : Int) < 0); omega
  have ht : (OfNat.ofNat m : Int).toNat = m := rfl
  unfold Op.shift
  simp only [h0, if_false, ht]
  congr 1
  congr 1
  unfold n64
  rw [BitVec.toNat_ushiftRight, Nat.shiftRight_eq_div_pow]
  simp only [IntKind.bits]
  have hx := x.isLt
  rcases Nat.lt_or_ge m 64 with h | h
  · rw [Nat.min_eq_left oM, Int.fdiv_eq_ediv_of_nonneg _ (Int.pow_nonneg (by decide))]
    simp
  · rw [Nat.min_eq_right oM]
    have h1 : x.toNat / 2 ^ m = 0 := Nat.div_eq_of_lt (Nat.lt_of_lt_of_le hx (Nat.pow_le_pow_right (by decide) h))
    rw [h1, Int.fdiv_eq_ediv_of_nonneg _ (Int.pow_nonneg (by decide))]
    omega
theorem ex64 {n : Int} (h : (Lit.int .u64 n).wf = true) : ∃ x : BitVec 64, n = n64 x := by
  simp [Lit.wf, IntKind.min, IntKind.max, IntKind.signed, IntKind.bits] at h
  exact ⟨BitVec.ofInt 64 n, by unfold n64; rw [BitVec.toNat_ofInt]; omega⟩
theorem and64 (x y : BitVec 64) : bits .and .u64 (n64 x) (n64 y) = n64 (x &&& y) := by
  show IntKind.u64.wrap ((BitVec.ofInt 64 _ &&& BitVec.ofInt 64 _).toNat : Int) = _
  rw [of64, of64, ← n64_def, in64]
theorem or64 (x y : BitVec 64) : bits .or .u64 (n64 x) (n64 y) = n64 (x ||| y) := by
  show IntKind.u64.wrap ((BitVec.ofInt 64 _ ||| BitVec.ofInt 64 _).toNat : Int) = _
  rw [of64, of64, ← n64_def, in64]
theorem xor64 (x y : BitVec 64) : bits .xor .u64 (n64 x) (n64 y) = n64 (x ^^^ y) := by
  show IntKind.u64.wrap ((BitVec.ofInt 64 _ ^^^ BitVec.ofInt 64 _).toNat : Int) = _
  rw [of64, of64, ← n64_def, in64]
theorem andNot64 (x y : BitVec 64) : bits .andNot .u64 (n64 x) (n64 y) = n64 (x &&& ~~~y) := by
  show IntKind.u64.wrap ((BitVec.ofInt 64 _ &&& ~~~BitVec.ofInt 64 _).toNat : Int) = _
  rw [of64, of64, ← n64_def, in64]
theorem cv8_32 (x : BitVec 8) : IntKind.u32.wrap (n8 x) = n32 (x.setWidth 32) := by
  rw [wrap32]; unfold n8 n32; rw [BitVec.ofInt_natCast, BitVec.toNat_ofNat, BitVec.toNat_setWidth]
theorem cv8_64 (x : BitVec 8) : IntKind.u64.wrap (n8 x) = n64 (x.setWidth 64) := by
  rw [wrap64]; unfold n8 n64; rw [BitVec.ofInt_natCast, BitVec.toNat_ofNat, BitVec.toNat_setWidth]
theorem cv32_8 (x : BitVec 32) : IntKind.u8.wrap (n32 x) = n8 (x.setWidth 8) := by
  rw [wrap8]; unfold n32 n8; rw [BitVec.ofInt_natCast, BitVec.toNat_ofNat, BitVec.toNat_setWidth]
theorem cv32_64 (x : BitVec 32) : IntKind.u64.wrap (n32 x) = n64 (x.setWidth 64) := by
  rw [wrap64]; unfold n32 n64; rw [BitVec.ofInt_natCast, BitVec.toNat_ofNat, BitVec.toNat_setWidth]
theorem cv64_8 (x : BitVec 64) : IntKind.u8.wrap (n64 x) = n8 (x.setWidth 8) := by
  rw [wrap8]; unfold n64 n8; rw [BitVec.ofInt_natCast, BitVec.toNat_ofNat, BitVec.toNat_setWidth]
theorem cv64_32 (x : BitVec 64) : IntKind.u32.wrap (n64 x) = n32 (x.setWidth 32) := by
  rw [wrap32]; unfold n64 n32; rw [BitVec.ofInt_natCast, BitVec.toNat_ofNat, BitVec.toNat_setWidth]
theorem i64_u64 (x : BitVec 64) : IntKind.u64.wrap (i64 x) = n64 x := by rw [wrap64]; unfold i64; rw [BitVec.ofInt_toInt]
theorem exi64 {n : Int} (h : (Lit.int .i64 n).wf = true) : ∃ x : BitVec 64, n = i64 x := by
  simp [Lit.wf, IntKind.min, IntKind.max, IntKind.signed, IntKind.bits] at h
  exact ⟨BitVec.ofInt 64 n, by unfold i64; rw [BitVec.toInt_ofInt_eq_self (by decide) (by simp; omega) (by simp; omega)]⟩
end Go.Proofs.YtlplpmkdebemnaaGreat.Bv
namespace Go.Proofs.YtlplpmkdebemnaaGreat
open Go.RowKit Bv Go.ChangeShapes
theorem add0 (ad : Addr) : ad.add 0 = ad := by
  cases ad; unfold Addr.add; split <;> simp_all
def ath {k : Nat} (xs : List (BitVec k)) (j : Nat) : BitVec k := xs.getD j 0
theorem ath_get {k : Nat} (xs : List (BitVec k)) (j : Nat) (h : j < xs.length) : ath xs j = xs[j] := by simp [ath, h]
theorem ath_take {k : Nat} (xs : List (BitVec k)) (n j : Nat) (h : j < n) : ath (xs.take n) j = ath xs j := by
  simp only [ath, List.getD_eq_getElem?_getD, List.getElem?_take, if_pos h]
theorem ath_drop {k : Nat} (xs : List (BitVec k)) (n j : Nat) : ath (xs.drop n) j = ath xs (n + j) := by
  simp only [ath, List.getD_eq_getElem?_getD, List.getElem?_drop]
theorem ath_app_l {k : Nat} (xs ys : List (BitVec k)) (j : Nat) (h : j < xs.length) : ath (xs ++ ys) j = ath xs j := by
  simp only [ath, List.getD_eq_getElem?_getD, List.getElem?_append_left h]
theorem ath_app_r {k : Nat} (xs ys : List (BitVec k)) (j : Nat) (h : xs.length ≤ j) : ath (xs ++ ys) j = ath ys (j - xs.length) := by
  simp only [ath, List.getD_eq_getElem?_getD, List.getElem?_append_right h]
theorem ext_ath {k : Nat} {xs ys : List (BitVec k)} (hl : xs.length = ys.length) (h : ∀ j, j < xs.length → ath xs j = ath ys j) : xs = ys := by
  apply List.ext_getElem hl
  intro j h1 h2
  rw [← ath_get xs j h1, ← ath_get ys j h2]
  exact h j h1
structure Rd {k : Nat} (enc : BitVec k → Value) (w : World) (A : Option Addr) (n c : Nat) (xs : List (BitVec k)) : Prop where
  len : xs.length = n
  le : n ≤ c
  most : c ≤ 9223372036854775807
  isn : A = none → c = 0
  cells : ∀ ad, A = some ad → ∀ j, j < n → w.cell? (ad.add j) = some (enc (ath xs j))
section
variable {k : Nat} {enc : BitVec k → Value} {w w' : World} {A : Option Addr} {n c : Nat} {xs : List (BitVec k)}
theorem Rd.below {B : Nat} (h : Rd enc w A n c xs) (hb : Below B w w') (hB : w.heap.size ≤ B) : Rd enc w' A n c xs :=
  ⟨h.len, h.le, h.most, h.isn, fun ad e j hj => (hb.cell (Nat.lt_of_lt_of_le (World.block_lt_of_cell? w _ (h.cells ad e j hj)) hB)).trans (h.cells ad e j hj)⟩
theorem Rd.nil (w : World) : Rd enc w none 0 0 [] := ⟨rfl, by omega, by omega, fun _ => rfl, fun _ _ j hj => by omega⟩
end
theorem all8 : ∀ (zs : List Int), (∀ n ∈ zs, (Lit.int .u8 n).wf = true) → ∃ xs : List (BitVec 8), zs = xs.map n8
  | [], _ => ⟨[], rfl⟩
  | z :: zs, h => by
    obtain ⟨x, hx⟩ := ex8 (h z (by simp))
    obtain ⟨xs, hxs⟩ := all8 zs (fun n hn => h n (by simp [hn]))
    exact ⟨x :: xs, by simp [hx, hxs]⟩
section
variable {H : Type} {enc : TypeId × Value → H} {P : Program} {w : World} {base : Nat} {held : Bool} {t e : TypeId}
theorem open_arr {n : Nat} {k : IntKind} {β : Type} {r : Reach} {b0 : Nat} (num : β → Int) (hall : ∀ (zs : List Int), (∀ n ∈ zs, (Lit.int k n).wf = true) → ∃ xs : List β, zs = xs.map num) {v : Value}
    (ht : P.underlying t = some (.array n e)) (he : P.underlying e = some (.int k)) (hce : P.cellsOf e = 1) (hct : P.cellsOf t = n) {fuel : Nat} {x : DataW H × List MemPlace}
    (hv : Value.okWide P w r b0 t v) (hf : DataW.trod enc P w base (fun _ => true) held fuel t v.cells.toList = some x) : ∃ xs : List β, xs.length = n ∧ v = .agg (xs.map (fun b => Value.int k (num b))).toArray := by
  obtain ⟨cs, rfl, hsz⟩ : ∃ cs, v = .agg cs ∧ cs.size = P.cellsOf t := by
    unfold Value.okWide at hv
    rw [ht] at hv
    obtain ⟨cs, h1, h2, _⟩ := hv
    exact ⟨cs, h1, h2⟩
  simp only [Value.cells] at hf
  obtain ⟨ys, m, rfl, -, hl, hy, hel⟩ := DataW.trod_array ht hf
  rw [hct] at hsz
  have key : ∀ i (h : i < cs.size), ∃ z : Int, cs[i] = .int k z ∧ (Lit.int k z).wf = true := by
    intro i hi
    have h1 := hel i oM
    rw [hce, Nat.mul_one, List.getElem?_eq_getElem (show i < ys.length by omega)] at h1
    have hcl : i < cs.toList.length := by simpa using hi
    rw [List.drop_eq_getElem_cons hcl, List.take_succ_cons, List.take_zero] at h1
    obtain ⟨z, h2, _, h3⟩ := DataW.trod_int he h1
    simp only [List.cons.injEq, and_true] at h2
    exact ⟨z, by simpa using h2, h3⟩
  have zs : ∃ zs : List Int, cs.toList = zs.map (Value.int k) ∧ ∀ n ∈ zs, (Lit.int k n).wf = true := by
    have : ∀ l : List Value, (∀ i (h : i < l.length), ∃ z : Int, l[i] = .int k z ∧ (Lit.int k z).wf = true) → ∃ zs : List Int, l = zs.map (Value.int k) ∧ ∀ n ∈ zs, (Lit.int k n).wf = true := by
      intro l
      induction l with
      | nil => exact fun _ => ⟨[], rfl, by simp⟩
      | cons a l ih =>
        intro h
        obtain ⟨z, hz, hw⟩ := h 0 (by simp)
        obtain ⟨zs, h1, h2⟩ := ih (fun i hi => by have := h (i + 1) (by simp; omega); simpa using this)
        exact ⟨z :: zs, by simp at hz; simp [hz, h1], by simp [hw]; exact h2⟩
    exact this cs.toList (fun i hi => by have := key i (by simpa using hi); simpa using this)
  obtain ⟨zs, h1, h2⟩ := zs
  obtain ⟨xs, rfl⟩ := hall zs h2
  have h3 : cs.toList.length = n := by simpa using hsz
  rw [h1] at h3
  refine ⟨xs, by simpa using h3, ?_⟩
  congr 1
  apply Array.ext'
  rw [h1]; simp
end
end Go.Proofs.YtlplpmkdebemnaaGreat
namespace Go.Proofs.YtlplpmkdebemnaaGreat
open Go.RowKit Bv
section
variable {k : Nat} {enc : BitVec k → Value} {P : Program} {w w' : World} {base n c g : Nat} {e : TypeId} {A : Option Addr} {xs ys : List (BitVec k)}
end
section
variable {k : Nat} {enc : BitVec k → Value} {w w' : World} {n c g : Nat} {e : TypeId} {A : Option Addr} {xs : List (BitVec k)}
theorem ath_set {k : Nat} (xs : List (BitVec k)) (i j : Nat) (v : BitVec k) (hi : i < xs.length) : ath (xs.set i v) j = if i = j then v else ath xs j := by
  simp only [ath, List.getD_eq_getElem?_getD, List.getElem?_set]
  by_cases h : i = j
  · subst h; simp [hi]
  · simp [h]
theorem Rd.set (h : Rd enc w (some ⟨g, 0, none⟩) n c xs) (i : Nat) (hi : i < n) (v : BitVec k) : Rd enc (w.setCell ⟨g, i, none⟩ (enc v)) (some ⟨g, 0, none⟩) n c (xs.set i v) := by
  refine ⟨by rw [List.length_set]; exact h.len, h.le, h.most, (fun h => by cases h), fun ad e j hj => ?_⟩
  cases e
  have h1 := h.cells _ rfl j hj
  have h2 := h.cells _ rfl i hi
  rw [Addr.add_lit, Nat.zero_add] at h1 h2 ⊢
  rw [ath_set xs i j v (by rw [h.len]; exact hi)]
  by_cases hij : i = j
  · subst hij
    rw [if_pos rfl]
    exact World.cell?_setCell_same' _ _ _ (by rw [h2]; rfl)
  · rw [if_neg hij, ← h1]
    exact World.cell?_setCell_other _ _ _ _ (fun e => hij (by cases e; rfl))
theorem Rd.one (w : World) (v : BitVec k) (e : TypeId) : Rd enc (w.alloc (.cells #[enc v] e (0, 0))) (some ⟨w.heap.size, 0, none⟩) 1 1 [v] := by
  refine ⟨rfl, Nat.le_refl _, by omega, (fun h => by cases h), fun ad ea j hj => ?_⟩
  cases ea
  obtain rfl : j = 0 := by omega
  rw [Addr.add_lit, Nat.zero_add]
  simp only [World.cell?, heap_alloc_new, Option.isSome_none, Bool.false_eq_true, if_false]
  simp [ath]
end
def Blk (w : World) (g : Nat) (e : TypeId) (cs : List Value) : Prop := w.heap[g]? = some (.cells cs.toArray e (0, 0))
section
variable {w w' : World} {g : Nat} {e : TypeId} {cs : List Value}
theorem Blk.cell (h : Blk w g e cs) (j : Nat) : w.cell? ⟨g, j, none⟩ = cs[j]? := by
  unfold Blk at h
  simp [World.cell?, h]
theorem Blk.lt (h : Blk w g e cs) : g < w.heap.size := (Array.getElem?_eq_some_iff.1 h).1
theorem Blk.set (h : Blk w g e cs) (j : Nat) (v : Value) : Blk (w.setCell ⟨g, j, none⟩ v) g e (cs.set j v) := by
  unfold Blk at *
  have hg := (Array.getElem?_eq_some_iff.1 h).1
  simp only [World.setCell, Array.getElem?_modify, if_pos, h, Option.map_some, Option.isSome_none, Bool.false_eq_true, if_false]
  simp
theorem Blk.below {B : Nat} (h : Blk w g e cs) (hb : Below B w w') (hB : g < B) : Blk w' g e cs := (hb.block g hB).trans h
theorem Blk.alloc (h : Blk w g e cs) (o : Obj) : Blk (w.alloc o) g e cs := (Below.heap_alloc w o g h.lt).trans h
end
end Go.Proofs.YtlplpmkdebemnaaGreat
namespace Go.Proofs.YtlplpmkdebemnaaGreat
open Go.RowKit
section
variable {P : Program} {Q : Exit → Act → World → Prop} {a : Act} {w : World} {n : Nat} {l : Nat}
def RF (l : Nat) : Fence := Fence.wide.inRound l
theorem rowsIn_RF {row : String} {args : Array Value} {R : Value → World → Prop} (h : Rows P row args w R) : RowsIn (RF l) n P row args w R :=
  fun c cs _ => let ⟨v, w', r, s⟩ := h c cs; ⟨v, w', r, stepsIn_wide.2 s⟩
theorem op_in {o : Oper} {K : Act → World → Prop} (hd : ∀ c, o.op ≠ .defer c) (h : o.wp P a w K Q) : o.wpIn (RF l) n P a w K Q := by
  refine ⟨fun f _ => trivial, ?_⟩
  rw [Oper.semAt_eq _ _ _ hd]
  unfold Oper.wp at h
  generalize hr : (execOp a.eval o).run P w = r at *
  cases r with
  | ok x w' =>
    cases x <;> simp only [Oper.upon, Oper.uponIn] at h ⊢
    all_goals first
      | exact h
      | exact h.elim
      | exact ⟨fun h => absurd h (by simp [RF, Fence.inRound, Fence.wide]), CallsIn.inRound l (callsIn_wide.2 h)⟩
      | exact ⟨fun h => absurd h (by simp [RF, Fence.inRound, Fence.wide]), rowsIn_RF h⟩
  | halt x w' => cases x <;> first | exact h | exact h.elim
theorem op_wide {o : Oper} {K : Act → World → Prop} (h : o.wp P a w K Q) : o.wpIn Fence.wide n P a w K Q := by
  refine ⟨fun f _ => trivial, ?_⟩
  unfold Oper.wp at h
  rw [show Oper.semAt Fence.wide.round a.eval o = execOp a.eval o from rfl]
  generalize hr : (execOp a.eval o).run P w = r at *
  cases r with
  | ok x w' =>
    cases x <;> simp only [Oper.upon, Oper.uponIn] at h ⊢
    all_goals first
      | exact h
      | exact h.elim
      | exact ⟨fun h => absurd h (by simp [Fence.wide]), callsIn_wide.2 h⟩
      | exact ⟨fun h => absurd h (by simp [Fence.wide]), fun c cs _ => let ⟨v, w', r, s⟩ := h c cs; ⟨v, w', r, stepsIn_wide.2 s⟩⟩
  | halt x w' => cases x <;> first | exact h | exact h.elim
def noDefer (ops : List Oper) : Bool := ops.all fun o => match o.op with | .defer _ => false | _ => true
theorem noDefer_at {ops : List Oper} (h : noDefer ops = true) {o : Oper} (ho : o ∈ ops) : ∀ c, o.op ≠ .defer c := by
  intro c hc
  have := List.all_eq_true.1 h o ho
  rw [hc] at this
  cases this
theorem any_in {ops : Array Oper} {md : Region.Mode} (hd : noDefer ops.toList = true) (hl : ¬ LetsOut Q) : ∀ (fuel : Nat) (listed : Array Bool) (a : Act) (w : World), wpAny P md ops Q fuel listed a w → wpAnyIn (RF l) n P md ops Q fuel listed a w
  | 0, _, _, _, h => h
  | fuel + 1, listed, a, w, h => by
    refine ⟨h.1, fun i hi => ?_⟩
    have h2 := h.2 i hi
    unfold wpOp at h2
    unfold wpOpIn
    split
    · rename_i ho
      rw [ho] at h2
      exact any_in hd hl fuel _ _ _ h2
    · rename_i o ho
      rw [ho] at h2
      simp only at h2
      by_cases hw : Region.wanted o (yielded ops a.tmps) = true
      · rw [if_pos hw] at h2 ⊢
        rcases h2 with h3 | h3
        · refine op_in (noDefer_at hd ?_) (Oper.wp_mono (fun a w h => any_in hd hl fuel _ a w h) h3)
          have := Array.mem_of_getElem? ho
          simpa using this
        · exact absurd h3.2 hl
      · rw [if_neg hw] at h2 ⊢
        exact ⟨fun _ _ => trivial, any_in hd hl fuel _ _ _ h2⟩
theorem list_in {ops : Array Oper} (hl : ¬ LetsOut Q) : ∀ (os : List Oper) (a : Act) (w : World), noDefer os = true → wpList P ops Q os a w → wpListIn (RF l) n P ops Q os a w
  | [], _, _, _, h => h
  | o :: os, a, w, hd, h => by
    have hd2 : noDefer os = true := by unfold noDefer at *; rw [List.all_cons, Bool.and_eq_true] at hd; exact hd.2
    unfold wpList at h
    unfold wpListIn
    by_cases hw : Region.wanted o (yielded ops a.tmps) = true
    · rw [if_pos hw] at h ⊢
      rcases h with h3 | h3
      · exact op_in (noDefer_at hd (List.mem_cons_self ..)) (Oper.wp_mono (fun a w h => list_in hl os a w hd2 h) h3)
      · exact absurd h3.2 hl
    · rw [if_neg hw] at h ⊢
      exact ⟨fun _ _ => trivial, list_in hl os _ _ hd2 h⟩
theorem region_any_in {id : Nat} {os : List Oper} (hm : P.follows .mixedOrders = true) (hd : noDefer os = true) (hl : ¬ LetsOut Q)
    (h : wpAny P .any os.toArray Q os.toArray.size (Array.replicate os.toArray.size false) a w.drew) : (Code.region id os.toArray true).wpIn (RF l) n P Q a w :=
  wpIn_region_any hm (any_in (by simpa using hd) hl _ _ _ _ h)
theorem region_lit_in {id : Nat} {os : List Oper} (hd : noDefer os = true) (hl : ¬ LetsOut Q) (h : wpList P os.toArray Q os a w) : (Code.region id os.toArray false).wpIn (RF l) n P Q a w :=
  wpIn_region_lit (list_in hl _ _ _ hd h)
end
end Go.Proofs.YtlplpmkdebemnaaGreat
namespace Go.Proofs.YtlplpmkdebemnaaGreat
open Go.RowKit Bv
structure Only (g : Nat) (w w' : World) : Prop where
  os : w'.os = w.os
  tape : w'.tape = w.tape
  output : w'.output = w.output
  size : w'.heap.size = w.heap.size
  block : ∀ k, k ≠ g → w'.heap[k]? = w.heap[k]?
section
variable {w w' : World} {g : Nat} {e : TypeId} {cs : List Value} {P : Program}
theorem Only.below {B : Nat} {w0 : World} (h : Only g w w') (hb : Below B w0 w) (hg : B ≤ g) : Below B w0 w' :=
  ⟨h.os.trans hb.os, h.tape.trans hb.tape, h.output.trans hb.output, h.size ▸ hb.size, fun k hk => (h.block k oM).trans (hb.block k hk)⟩
theorem Blk.only (h : Blk w g e cs) {g' : Nat} (ho : Only g' w w') (hg : g ≠ g') : Blk w' g e cs := (ho.block g hg).trans h
theorem only_setCell (w : World) (g j : Nat) (v : Value) : Only g w (w.setCell ⟨g, j, none⟩ v) :=
  ⟨rfl, rfl, rfl, by simp [World.setCell], fun k hk => Below.heap_setCell w ⟨g, j, none⟩ v k hk⟩
theorem Only.trans {w'' : World} (h : Only g w w') (k : Only g w' w'') : Only g w w'' :=
  ⟨k.os.trans h.os, k.tape.trans h.tape, k.output.trans h.output, k.size.trans h.size, fun b hb => (k.block b hb).trans (h.block b hb)⟩
theorem Only.drew (h : Only g w w') : Only g w w'.drew := ⟨h.os, h.tape, h.output, h.size, h.block⟩
theorem Only.refl (g : Nat) (w : World) : Only g w w := ⟨rfl, rfl, rfl, rfl, fun _ _ => rfl⟩
theorem Only.set (h : Only g w w') (j : Nat) (v : Value) : Only g w (w'.setCell ⟨g, j, none⟩ v) := h.trans (only_setCell w' g j v)
theorem Blk.drew (h : Blk w g e cs) : Blk w.drew g e cs := h
end
end Go.Proofs.YtlplpmkdebemnaaGreat
namespace Go.Proofs.YtlplpmkdebemnaaGreat
section
variable {P : Program} {ops : Array Oper} {md : Region.Mode} {w : World}
end
end Go.Proofs.YtlplpmkdebemnaaGreat
namespace Go.Proofs.YtlplpmkdebemnaaGreat.Fw
open Go.RowKit Bv
structure RdV (w : World) (A : Option Addr) (z n c : Nat) (cs : List Value) : Prop where
  len : cs.length = n * z
  le : n ≤ c
  most : c ≤ 9223372036854775807
  isn : A = none → c = 0
  cells : ∀ ad, A = some ad → ∀ j v, cs[j]? = some v → w.cell? (ad.add j) = some v
def adr (A : Option Addr) : Addr := A.getD ⟨0, 0, none⟩
structure Same (w w' : World) : Prop where
  os : w'.os = w.os
  tape : w'.tape = w.tape
  output : w'.output = w.output
  size : w.heap.size ≤ w'.heap.size
theorem Same.refl (w : World) : Same w w := ⟨rfl, rfl, rfl, Nat.le_refl _⟩
theorem Same.trans {a b c : World} (h : Same a b) (k : Same b c) : Same a c := ⟨k.os.trans h.os, k.tape.trans h.tape, k.output.trans h.output, Nat.le_trans h.size k.size⟩
def Stab (B : Nat) (I : List Nat) (p : World → Prop) : Prop := ∀ w w', p w → Same w w' → (∀ i, i < B → w'.heap[i]? = w.heap[i]?) → (∀ i ∈ I, w'.heap[i]? = w.heap[i]?) → p w'
structure Pt where
  A : Option Addr
  n : Nat
  c : Nat
  xs : List (BitVec 8)
def Pt.sl (p : Pt) : Value := .slice p.A p.n p.c
inductive HA where
  | blk (g : Nat) (e : TypeId) (cs : List Value)
  | row (v : Value) (e : TypeId) (z n : Nat) (zs : List Value)
  | rd (A : Option Addr) (z n c : Nat) (cs : List Value)
  | old (A : Option Addr) (z n c : Nat) (cs : List Value)
  | all (L : List Pt)
  | obj (g : Nat) (o : Obj)
  | inv (B : Nat) (O R : List Nat) (p : World → Prop)
def rid (A : Option Addr) (c : Nat) : List Nat := if c = 0 then [] else (A.map (·.block)).toList
theorem mem_rid {A : Option Addr} {c r : Nat} : r ∈ rid A c ↔ 0 < c ∧ ∃ ad, A = some ad ∧ ad.block = r := by
  unfold rid
  split
  · simp; omega
  · cases A <;> simp <;> omega
def HA.ids : HA → List Nat
  | .blk g _ _ => [g]
  | .row v _ _ _ _ => v.ownBlock.toList
  | .obj g _ => [g]
  | _ => []
def HA.os : HA → List Nat
  | .inv _ O _ _ => O
  | _ => []
def HA.bs : HA → Option Nat
  | .inv B _ _ _ => some B
  | _ => none
def HA.rids : HA → List Nat
  | .rd A _ _ c _ => rid A c
  | .old A _ _ c _ => rid A c
  | .all L => L.flatMap fun p => rid p.A p.c
  | .inv _ O R _ => O ++ R
  | _ => []
def HA.frs : HA → List Nat
  | .blk g _ _ => [g]
  | .row v _ _ _ _ => v.ownBlock.toList
  | .old A _ _ c _ => rid A c
  | .obj g _ => [g]
  | _ => []
theorem HA.ids_frs {x : HA} {k : Nat} (h : k ∈ x.ids) : k ∈ x.frs := by cases x <;> first | exact h | cases h
def HA.outB : HA → Bool
  | .blk _ _ _ => true
  | .row _ _ _ _ _ => true
  | .old _ _ _ _ _ => true
  | .obj _ _ => true
  | _ => false
theorem HA.rids_frs {x : HA} {k : Nat} (hb : x.outB = true) (h : k ∈ x.rids) : k ∈ x.frs := by cases x <;> first | (cases hb; done) | exact h | cases h
def HA.ok (w : World) : HA → Prop
  | .blk g e cs => w.heap[g]? = some (.cells cs.toArray e (0, 0))
  | .row v e z n zs => w.ownsRow 0 e z v n zs
  | .rd A z n c cs => RdV w A z n c cs ∧ ∀ ad, A = some ad → 0 < c → ad.block < w.heap.size
  | .old A z n c cs => RdV w A z n c cs ∧ ∀ ad, A = some ad → 0 < c → ad.block < w.heap.size
  | .all L => ∀ p ∈ L, RdV w p.A 1 p.n p.c (p.xs.map b8) ∧ ∀ ad, p.A = some ad → 0 < p.c → ad.block < w.heap.size
  | .obj g o => w.heap[g]? = some o
  | .inv B O R p => p w ∧ Stab B (O ++ R) p ∧ ∀ i ∈ O ++ R, i < w.heap.size
theorem cell_of_block {w w' : World} {a : Addr} (h : w'.heap[a.block]? = w.heap[a.block]?) : w'.cell? a = w.cell? a := by simp [World.cell?, h]
theorem RdV.keep {w w' : World} {A : Option Addr} {z n c : Nat} {cs : List Value} (h : RdV w A z n c cs) (hi : ∀ i ∈ rid A c, w'.heap[i]? = w.heap[i]?) : RdV w' A z n c cs := by
  refine ⟨h.len, h.le, h.most, h.isn, fun ad e j v hj => ?_⟩
  have hc : 0 < c := by
    have h1 := (List.getElem?_eq_some_iff.1 hj).1
    have h2 := h.len; have h3 := h.le
    rcases Nat.eq_zero_or_pos c with h0 | h0
    · exfalso
      have h4 : n = 0 := by omega
      rw [h4, Nat.zero_mul] at h2
      omega
    · exact h0
  have hb : (ad.add j).block = ad.block := by unfold Addr.add; split <;> rfl
  rw [cell_of_block (w := w) (by rw [hb]; exact hi _ (mem_rid.2 ⟨hc, ad, e, rfl⟩)), h.cells ad e j v hj]
theorem add_block (ad : Addr) (j : Nat) : (ad.add j).block = ad.block := by unfold Addr.add; split <;> rfl
theorem HA.ok_keep {x : HA} {w w' : World} (h : x.ok w) (hs : Same w w') (hi : ∀ i ∈ x.ids ++ x.rids, w'.heap[i]? = w.heap[i]?) (hb : ∀ B, x.bs = some B → ∀ i, i < B → w'.heap[i]? = w.heap[i]?) : x.ok w' := by
  cases x with
  | blk g e cs => exact (hi g (by simp [HA.ids])).trans h
  | row v e z n zs =>
    obtain ⟨hl, h | ⟨g, cap, cur, rfl, hg, hb, r⟩⟩ := h
    · exact ⟨hl, .inl h⟩
    · exact ⟨hl, .inr ⟨g, cap, cur, rfl, hg, (hi g (by simp [HA.ids, Value.ownBlock])).trans hb, r⟩⟩
  | rd A z n c cs => exact ⟨h.1.keep (fun i hI => hi i (by simpa [HA.rids, HA.ids] using hI)), fun ad e hc => Nat.lt_of_lt_of_le (h.2 ad e hc) hs.size⟩
  | old A z n c cs => exact ⟨h.1.keep (fun i hI => hi i (by simpa [HA.rids, HA.ids] using hI)), fun ad e hc => Nat.lt_of_lt_of_le (h.2 ad e hc) hs.size⟩
  | all L =>
    intro p hp
    have h1 := h p hp
    exact ⟨h1.1.keep (fun i hI => hi i (List.mem_append.2 (.inr (List.mem_flatMap.2 ⟨p, hp, hI⟩)))), fun ad e hc => Nat.lt_of_lt_of_le (h1.2 ad e hc) hs.size⟩
  | obj g o => exact (hi g (by simp [HA.ids])).trans h
  | inv B O R p => exact ⟨h.2.1 w w' h.1 hs (hb B rfl) (fun i hI => hi i (by simpa [HA.rids, HA.ids] using hI)), h.2.1, fun i hI => Nat.lt_of_lt_of_le (h.2.2 i hI) hs.size⟩
theorem HA.lt {x : HA} {w : World} (h : x.ok w) : ∀ i ∈ x.ids ++ x.rids, i < w.heap.size := by
  intro i hi
  cases x with
  | blk g e cs =>
    simp [HA.ids, HA.rids] at hi; subst hi
    exact (Array.getElem?_eq_some_iff.1 h).1
  | row v e z n zs =>
    simp [HA.ids, HA.rids] at hi
    exact (World.ownsRow.lt h i hi).2
  | rd A z n c cs =>
    obtain ⟨hc, ad, h1, h2⟩ := mem_rid.1 (by simpa [HA.ids, HA.rids] using hi)
    exact h2 ▸ h.2 ad h1 hc
  | old A z n c cs =>
    obtain ⟨hc, ad, h1, h2⟩ := mem_rid.1 (by simpa [HA.ids, HA.rids] using hi)
    exact h2 ▸ h.2 ad h1 hc
  | all L =>
    simp only [HA.ids, HA.rids, List.nil_append] at hi
    obtain ⟨p, hp, hpi⟩ := List.mem_flatMap.1 hi
    obtain ⟨hc, ad, h1, h2⟩ := mem_rid.1 hpi
    exact h2 ▸ (h p hp).2 ad h1 hc
  | obj g o =>
    simp [HA.ids, HA.rids] at hi; subst hi
    exact (Array.getElem?_eq_some_iff.1 h).1
  | inv B O R p => exact h.2.2 i (by simpa [HA.ids, HA.rids] using hi)
structure Keep (C : List Nat) (w w' : World) : Prop where
  same : Same w w'
  block : ∀ k, k < w.heap.size → k ∉ C → w'.heap[k]? = w.heap[k]?
theorem Keep.refl (C : List Nat) (w : World) : Keep C w w := ⟨Same.refl w, fun _ _ _ => rfl⟩
theorem Keep.trans {C D : List Nat} {a b c : World} (h : Keep C a b) (k : Keep D b c) (hD : ∀ i ∈ D, i ∈ C ∨ a.heap.size ≤ i) : Keep C a c :=
  ⟨h.same.trans k.same, fun i hi hn => (k.block i (Nat.lt_of_lt_of_le hi h.same.size) (fun hd => (hD i hd).elim hn (fun h => by omega))).trans (h.block i hi hn)⟩
theorem Keep.below {w w' : World} (h : Keep [] w w') : Below w.heap.size w w' := ⟨h.same.os, h.same.tape, h.same.output, h.same.size, fun k hk => h.block k hk (by simp)⟩
theorem Keep.of_below {w w' : World} (h : Below w.heap.size w w') : Keep [] w w' := ⟨⟨h.os, h.tape, h.output, h.size⟩, fun k hk _ => h.block k hk⟩
theorem Keep.of_grown {w w' : World} {r : Option Nat} (h : w.grownBy w' r) : Keep r.toList w w' :=
  ⟨⟨h.os, h.tape, h.output, h.size⟩, fun k hk hn => h.block k hk (fun e => hn (by rw [← e]; simp))⟩
structure Cx where
  N : Nat
  C : List Nat
  w0 : World
  lo : Nat
  rs : Nat → Prop
  ds : List Deferred
structure St (X : Cx) (s : List (Nat × Value)) (h : List HA) (a : Act) (w : World) : Prop where
  sz : a.tmps.size = X.N
  df : a.defers = X.ds
  sl : ∀ k v, s.lookup k = some v → a.tmps[k]? = some v
  kp : Keep X.C X.w0 w
  ok : ∀ x ∈ h, x.ok w
  ll : X.w0.heap.size ≤ X.lo ∧ X.lo ≤ w.heap.size
  fr : ∀ x ∈ h, ∀ k ∈ x.frs, k ∈ X.C ∨ X.lo ≤ k
  nd : (h.flatMap HA.ids).Nodup
  dj : ∀ x ∈ h, ∀ y ∈ h, ∀ r ∈ x.rids, r ∉ y.ids
  iv : ∀ x ∈ h, ∀ o ∈ x.os, ∀ y ∈ h, y.bs = none → o ∉ y.rids
  ib : ∀ x ∈ h, ∀ B, x.bs = some B → X.C = [] ∧ B ≤ X.lo
  rk : (∀ c ∈ X.C, X.rs c) ∧ ∀ x ∈ h, ∀ r ∈ x.rids, X.rs r ∨ X.lo ≤ r
theorem sd {p : Prop} (h : p := by first | omega | (simp; done) | (simp; omega) | (simp [*]; done) | (simp [*]; omega) | (simp only [List.length_map]; omega)) : p := h
abbrev Jd := Act → World → Prop
def Tr (X : Cx) (s : List (Nat × Value)) (h : List HA) (J : Jd) : Prop := ∀ a w, St X s h a w → J a w
def ev (s : List (Nat × Value)) : Operand → Option Value
  | .tmp t => s.lookup t
  | .const v => some v
  | .global g => some (.pointer (some ⟨g, 0, none⟩))
  | .func f => some (.func (.func f) #[] #[])
def Ag (s : List (Nat × Value)) (e : Operand → Value) : Prop := ∀ x v, ev s x = some v → e x = v
def HOK (h : List HA) (w : World) : Prop := ∀ x ∈ h, x.ok w
section
variable {X : Cx} {s s' : List (Nat × Value)} {h : List HA} {a : Act} {w w' : World} {J J' : Jd}
theorem St.ag (st : St X s h a w) : Ag s a.eval := by
  intro x v hx
  cases x with
  | tmp t => have := st.sl t v hx; simp [Act.eval, Array.getD_eq_getD_getElem?, this]
  | const u => exact Option.some.inj hx
  | global g => exact Option.some.inj hx
  | func f => exact Option.some.inj hx
theorem St.put (st : St X s h a w) {d : Nat} (hd : d < X.N) (v : Value) : St X ((d, v) :: s) h (a.put (some d) v) w := by
  refine ⟨by simp [Act.put, st.sz], st.df, ?_, st.kp, st.ok, st.ll, st.fr, st.nd, st.dj, st.iv, st.ib, st.rk⟩
  intro k u hk
  rw [List.lookup_cons] at hk
  simp only [Act.put, Array.getElem?_setIfInBounds]
  by_cases e : k = d
  · subst e; simp at hk; subst hk; simp [st.sz, hd]
  · have : (k == d) = false := by simpa using e
    rw [this] at hk
    rw [if_neg (fun h => e h.symm)]
    exact st.sl k u hk
theorem St.slots (st : St X s h a w) (hs : ∀ k v, s'.lookup k = some v → s.lookup k = some v) : St X s' h a w := ⟨st.sz, st.df, fun k v hk => st.sl k v (hs k v hk), st.kp, st.ok, st.ll, st.fr, st.nd, st.dj, st.iv, st.ib, st.rk⟩
theorem perm_erase : ∀ (h : List HA) (i : Nat) (x : HA), h[i]? = some x → h.Perm (x :: h.eraseIdx i)
  | y :: h, 0, x, e => by simp at e; subst e; exact List.Perm.refl _
  | y :: h, i + 1, x, e => by
    rw [List.eraseIdx_cons_succ]
    exact ((perm_erase h i x (by simpa using e)).cons y).trans (List.Perm.swap ..)
theorem St.swap (st : St X s h a w) (out keep hs : List HA) (hp : h.Perm (out ++ keep)) {a' : Act} {s' : List (Nat × Value)} (hsz : a'.tmps.size = X.N) (hdf : a'.defers = X.ds) (hsl : ∀ k v, s'.lookup k = some v → a'.tmps[k]? = some v)
    (hk : Keep (out.flatMap HA.ids) w w') (hok : ∀ x ∈ hs, x.ok w') (hfr : ∀ x ∈ hs, ∀ k ∈ x.frs, k ∈ out.flatMap HA.ids ∨ w.heap.size ≤ k) (hnd : (hs.flatMap HA.ids).Nodup) (hrd : ∀ x ∈ hs, ∀ r ∈ x.rids, r ∈ x.frs ∧ ∀ y ∈ hs, r ∉ y.ids) (hos : ∀ x ∈ hs, x.os = [] ∧ x.bs = none := by intro x hx; rw [List.mem_singleton] at hx; subst hx; exact ⟨rfl, rfl⟩) : St X s' (hs ++ keep) a' w' := by
  have hmem : ∀ x, x ∈ h ↔ x ∈ out ∨ x ∈ keep := fun x => by rw [hp.mem_iff, List.mem_append]
  have hout : ∀ k ∈ out.flatMap HA.ids, k ∈ X.C ∨ X.lo ≤ k := by
    intro k hk
    obtain ⟨x, hx, hi⟩ := List.mem_flatMap.1 hk
    exact st.fr x ((hmem x).2 (.inl hx)) k (HA.ids_frs hi)
  have hnd2 : ((out ++ keep).flatMap HA.ids).Nodup := (hp.flatMap_right HA.ids).nodup_iff.1 st.nd
  rw [List.flatMap_append] at hnd2
  have hko : ∀ x ∈ keep, x.ok w' := by
    intro x hx
    refine HA.ok_keep (st.ok x ((hmem x).2 (.inr hx))) hk.same (fun i hi => hk.block i (HA.lt (st.ok x ((hmem x).2 (.inr hx))) i hi) (fun hin => ?_)) (fun B hB i hiB => ?_)
    case refine_2 =>
      obtain ⟨hC, hB2⟩ := st.ib x ((hmem x).2 (.inr hx)) B hB
      refine hk.block i (by have := st.ll.2; omega) (fun hin => ?_)
      rcases hout i hin with h1 | h1
      · rw [hC] at h1; cases h1
      · omega
    rcases List.mem_append.1 hi with hi | hi
    · exact (List.nodup_append.1 hnd2).2.2 i hin i (List.mem_flatMap.2 ⟨x, hx, hi⟩) rfl
    · obtain ⟨y, hy, hyi⟩ := List.mem_flatMap.1 hin
      exact st.dj x ((hmem x).2 (.inr hx)) y ((hmem y).2 (.inl hy)) i hi hyi
  refine ⟨hsz, hdf, hsl, st.kp.trans hk (fun i hi => (hout i hi).imp id (fun h => Nat.le_trans st.ll.1 h)), ?_, ⟨st.ll.1, Nat.le_trans st.ll.2 hk.same.size⟩, ?_, ?_, ?_, ?_, ?_, ⟨st.rk.1, ?_⟩⟩
  · intro x hx
    rcases List.mem_append.1 hx with hx | hx
    · exact hok x hx
    · exact hko x hx
  · intro x hx k hki
    rcases List.mem_append.1 hx with hx | hx
    · rcases hfr x hx k hki with h1 | h1
      · exact hout k h1
      · exact .inr (Nat.le_trans st.ll.2 h1)
    · exact st.fr x ((hmem x).2 (.inr hx)) k hki
  · rw [List.flatMap_append, List.nodup_append]
    refine ⟨hnd, (List.nodup_append.1 hnd2).2.1, ?_⟩
    rintro i hi j hj rfl
    obtain ⟨x, hx, hxi⟩ := List.mem_flatMap.1 hi
    obtain ⟨y, hy, hyi⟩ := List.mem_flatMap.1 hj
    rcases hfr x hx i (HA.ids_frs hxi) with h1 | h1
    · exact (List.nodup_append.1 hnd2).2.2 i h1 i hj rfl
    · have := HA.lt (st.ok y ((hmem y).2 (.inr hy))) i (List.mem_append.2 (.inl hyi))
      omega
  · intro x hx y hy r hr hry
    rcases List.mem_append.1 hx with hx | hx
    · obtain ⟨h1, h2⟩ := hrd x hx r hr
      rcases List.mem_append.1 hy with hy | hy
      · exact h2 y hy hry
      · rcases hfr x hx r h1 with h3 | h3
        · exact (List.nodup_append.1 hnd2).2.2 r h3 r (List.mem_flatMap.2 ⟨y, hy, hry⟩) rfl
        · have := HA.lt (st.ok y ((hmem y).2 (.inr hy))) r (List.mem_append.2 (.inl hry)); omega
    · have hxr := HA.lt (st.ok x ((hmem x).2 (.inr hx))) r (List.mem_append.2 (.inr hr))
      rcases List.mem_append.1 hy with hy | hy
      · rcases hfr y hy r (HA.ids_frs hry) with h1 | h1
        · obtain ⟨z, hz, hzi⟩ := List.mem_flatMap.1 h1
          exact st.dj x ((hmem x).2 (.inr hx)) z ((hmem z).2 (.inl hz)) r hr hzi
        · omega
      · exact st.dj x ((hmem x).2 (.inr hx)) y ((hmem y).2 (.inr hy)) r hr hry
  · intro x hx o ho y hy hyb hor
    rcases List.mem_append.1 hx with hx | hx
    · rw [(hos x hx).1] at ho; cases ho
    · have hox : o ∈ x.rids := by cases x <;> first | (cases ho; done) | exact List.mem_append.2 (.inl ho)
      rcases List.mem_append.1 hy with hy | hy
      · rcases hfr y hy o (hrd y hy o hor).1 with h1 | h1
        · obtain ⟨z, hz, hzi⟩ := List.mem_flatMap.1 h1
          exact st.dj x ((hmem x).2 (.inr hx)) z ((hmem z).2 (.inl hz)) o hox hzi
        · have := HA.lt (st.ok x ((hmem x).2 (.inr hx))) o (List.mem_append.2 (.inr hox)); omega
      · exact st.iv x ((hmem x).2 (.inr hx)) o ho y ((hmem y).2 (.inr hy)) hyb hor
  · intro x hx B hB
    rcases List.mem_append.1 hx with hx | hx
    · rw [(hos x hx).2] at hB; cases hB
    · exact st.ib x ((hmem x).2 (.inr hx)) B hB
  · intro x hx r hr
    rcases List.mem_append.1 hx with hx | hx
    · rcases hfr x hx r (hrd x hx r hr).1 with h1 | h1
      · exact (hout r h1).imp (st.rk.1 r) id
      · exact .inr (Nat.le_trans st.ll.2 h1)
    · exact st.rk.2 x ((hmem x).2 (.inr hx)) r hr
theorem St.drew (st : St X s h a w) {k : Nat} : St X s h a { w with drawn := k } :=
  ⟨st.sz, st.df, st.sl, ⟨⟨st.kp.same.os, st.kp.same.tape, st.kp.same.output, st.kp.same.size⟩, st.kp.block⟩, fun x hx => HA.ok_keep (st.ok x hx) ⟨rfl, rfl, rfl, Nat.le_refl _⟩ (fun _ _ => rfl) (fun _ _ _ _ => rfl), st.ll, st.fr, st.nd, st.dj, st.iv, st.ib, st.rk⟩
theorem St.perm {h' : List HA} (st : St X s h a w) (hp : h.Perm h') : St X s h' a w :=
  ⟨st.sz, st.df, st.sl, st.kp, fun x hx => st.ok x (hp.mem_iff.2 hx), st.ll, fun x hx => st.fr x (hp.mem_iff.2 hx), (hp.flatMap_right HA.ids).nodup_iff.1 st.nd, fun x hx y hy => st.dj x (hp.mem_iff.2 hx) y (hp.mem_iff.2 hy), fun x hx o ho y hy => st.iv x (hp.mem_iff.2 hx) o ho y (hp.mem_iff.2 hy), fun x hx => st.ib x (hp.mem_iff.2 hx), st.rk.1, fun x hx => st.rk.2 x (hp.mem_iff.2 hx)⟩
theorem St.drop {keep out : List HA} (st : St X s (out ++ keep) a w) : St X s keep a w :=
  ⟨st.sz, st.df, st.sl, st.kp, fun x hx => st.ok x (List.mem_append.2 (.inr hx)), st.ll, fun x hx => st.fr x (List.mem_append.2 (.inr hx)), by have := st.nd; rw [List.flatMap_append] at this; exact (List.nodup_append.1 this).2.1, fun x hx y hy => st.dj x (List.mem_append.2 (.inr hx)) y (List.mem_append.2 (.inr hy)), fun x hx o ho y hy => st.iv x (List.mem_append.2 (.inr hx)) o ho y (List.mem_append.2 (.inr hy)), fun x hx => st.ib x (List.mem_append.2 (.inr hx)), st.rk.1, fun x hx => st.rk.2 x (List.mem_append.2 (.inr hx))⟩
def Sub (s : List (Nat × Value)) : List (Nat × Value) → Prop
  | [] => True
  | (k, v) :: r => s.lookup k = some v ∧ Sub s r
theorem sn {s : List (Nat × Value)} : Sub s [] := trivial
theorem sc {s r : List (Nat × Value)} {k : Nat} {v : Value} (h : s.lookup k = some v) (hr : Sub s r) : Sub s ((k, v) :: r) := ⟨h, hr⟩
theorem Sub.spec : ∀ {s' : List (Nat × Value)}, Sub s s' → ∀ k v, s'.lookup k = some v → s.lookup k = some v
  | [], _, _, _, e => by cases e
  | (j, u) :: r, hh, k, v, e => by
    rw [List.lookup_cons] at e
    by_cases hk : k = j
    · subst hk; simp at e; subst e; exact hh.1
    · have : (k == j) = false := by simpa using hk
      rw [this] at e
      exact hh.2.spec k v e
theorem T_re (s' : List (Nat × Value)) (hs : Sub s s') (h' : Tr X s' h J) : Tr X s h J := fun a w st => h' a w (st.slots hs.spec)
abbrev Pick (h : List HA) (is : List Nat) (h' : List HA) : Prop := is.Nodup ∧ is.map (h[·]?) = h'.map some
theorem pick_perm : ∀ (is : List Nat) (h h' : List HA), is.Nodup → is.map (h[·]?) = h'.map some → ∃ out, h.Perm (out ++ h')
  | [], h, h', _, e => by
    have : h' = [] := by cases h' with | nil => rfl | cons _ _ => simp at e
    subst this; exact ⟨h, by simp⟩
  | i :: is, h, h', hn, e => by
    cases h' with
    | nil => simp at e
    | cons x h' =>
      simp only [List.map_cons, List.cons.injEq] at e
      obtain ⟨e1, e2⟩ := e
      have hi : i < h.length := (List.getElem?_eq_some_iff.1 e1).1
      have hn' := List.nodup_cons.1 hn
      let f : Nat → Nat := fun j => if i < j then j - 1 else j
      have hmap : (is.map f).map ((h.eraseIdx i)[·]?) = h'.map some := by
        rw [← e2, List.map_map]
        apply List.map_congr_left
        intro j hj
        have hne : j ≠ i := fun e => hn'.1 (e ▸ hj)
        simp only [Function.comp, f, List.getElem?_eraseIdx]
        by_cases hij : i < j
        · rw [if_pos hij, if_neg oM, show j - 1 + 1 = j by omega]
        · rw [if_neg hij, if_pos oM]
      have hnf : (is.map f).Nodup := by
        have gen : ∀ l : List Nat, l.Nodup → i ∉ l → (l.map f).Nodup := by
          intro l
          induction l with
          | nil => intro _ _; exact List.nodup_nil
          | cons a l ih =>
            intro h1 h2
            rw [List.map_cons, List.nodup_cons]
            refine ⟨?_, ih (List.nodup_cons.1 h1).2 (fun h => h2 (List.mem_cons_of_mem _ h))⟩
            intro hm
            obtain ⟨b, hb, e⟩ := List.mem_map.1 hm
            have h3 : a ≠ b := fun e => (List.nodup_cons.1 h1).1 (e ▸ hb)
            have h4 : a ≠ i := fun e => h2 (e ▸ List.mem_cons_self ..)
            have h5 : b ≠ i := fun e => h2 (e ▸ List.mem_cons_of_mem _ hb)
            simp only [f] at e
            by_cases c1 : i < a <;> by_cases c2 : i < b <;> simp only [c1, c2, if_true, if_false] at e <;> omega
        exact gen is hn'.2 hn'.1
      obtain ⟨out, hp⟩ := pick_perm (is.map f) (h.eraseIdx i) h' hnf hmap
      refine ⟨out, (perm_erase h i x e1).trans ?_⟩
      refine (hp.cons x).trans ?_
      exact (List.perm_middle).symm
theorem St.pick {h' : List HA} {is : List Nat} (st : St X s h a w) (hp : Pick h is h') : St X s h' a w := by
  obtain ⟨out, hq⟩ := pick_perm is h h' hp.1 hp.2
  exact (st.perm hq).drop
theorem T_he (is : List Nat) (h' : List HA) (hp : Pick h is h') (hh : Tr X s h' J) : Tr X s h J := fun a w st => hh a w (st.pick hp)
theorem T_as (i : Nat) (x x' : HA) (hx : h[i]? = some x) (e : x = x') (hh : Tr X s (x' :: h.eraseIdx i) J) : Tr X s h J := fun a w st => hh a w (st.perm (e ▸ perm_erase h i x hx))
theorem T_slot (k : Nat) (v v' : Value) (hk : s.lookup k = some v) (e : v = v') (hh : Tr X ((k, v') :: s) h J) : Tr X s h J := by
  subst e
  refine fun a w st => hh a w (st.slots (fun j u hj => ?_))
  rw [List.lookup_cons] at hj
  by_cases hjk : j = k
  · subst hjk; simp at hj; subst hj; exact hk
  · have : (j == k) = false := by simpa using hjk
    rw [this] at hj; exact hj
theorem T_know {p : Prop} (hp : ∀ w, HOK h w → p) (hh : p → Tr X s h J) : Tr X s h J := fun a w st => hh (hp w st.ok) a w st
end
structure Ks where
  nrm : Jd
  ret : Jd
  ex : List (Nat × Jd)
def toQ (k : Ks) : Exit → Act → World → Prop
  | .normal, a, w => k.nrm a w
  | .ret, a, w => k.ret a w
  | .exit i, a, w => ∃ J, k.ex.lookup i = some J ∧ J a w
  | _, _, _ => False
def Wp (F : Fence) (n : Nat) (P : Program) (k : Ks) (c : Code) : Jd := fun a w => c.wpIn F n P (toQ k) a w
def Wid (F : Fence) : Prop := F = Fence.wide ∨ ∃ l, F = Fence.wide.inRound l
theorem wid_wide : Wid Fence.wide := .inl rfl
theorem wid_round (l : Nat) : Wid (Fence.wide.inRound l) := .inr ⟨l, rfl⟩
def QK (K : Jd) : Exit → Act → World → Prop := Exit.then K (fun _ _ _ => False)
theorem qk_lets (K : Jd) : ¬ LetsOut (QK K) := fun ⟨_, _, h⟩ => h
def Ls (P : Program) (ops : Array Oper) (K : Jd) (os : List Oper) : Jd := fun a w => wpList P ops (QK K) os a w
def An (P : Program) (ops : Array Oper) (K : Jd) (f : Nat) (listed : Array Bool) : Jd := fun a w => wpAny P .any ops (QK K) f listed a w
def Op (P : Program) (o : Oper) (K K0 : Jd) : Jd := fun a w => o.wp P a w K (QK K0)
section
variable {F : Fence} {n : Nat} {P : Program} {X : Cx} {s : List (Nat × Value)} {h : List HA} {nrm ret : Jd} {ex : List (Nat × Jd)} {x y : Code}
theorem T_seq (hh : Tr X s h (Wp F n P ⟨Wp F n P ⟨nrm, ret, ex⟩ y, ret, ex⟩ x)) : Tr X s h (Wp F n P ⟨nrm, ret, ex⟩ (.seq x y)) := fun a w st =>
  wpIn_seq (wpIn_mono (hh a w st) (fun e a w hq => by cases e <;> exact hq))
theorem T_skip (hh : Tr X s h nrm) : Tr X s h (Wp F n P ⟨nrm, ret, ex⟩ .skip) := fun a w st => wpIn_skip (hh a w st)
theorem T_label {l : Nat} (hh : Tr X s h nrm) : Tr X s h (Wp F n P ⟨nrm, ret, ex⟩ (.label l)) := fun a w st => wpIn_label (hh a w st)
theorem T_ret (hh : Tr X s h ret) : Tr X s h (Wp F n P ⟨nrm, ret, ex⟩ .ret) := fun a w st => wpIn_ret (hh a w st)
theorem T_exit {i : Nat} {J : Jd} (hi : ex.lookup i = some J) (hh : Tr X s h J) : Tr X s h (Wp F n P ⟨nrm, ret, ex⟩ (.exit i)) := fun a w st => wpIn_exit ⟨J, hi, hh a w st⟩
theorem T_block {i : Nat} (hh : Tr X s h (Wp F n P ⟨nrm, ret, (i, nrm) :: ex⟩ x)) : Tr X s h (Wp F n P ⟨nrm, ret, ex⟩ (.block i x)) := fun a w st =>
  wpIn_block (wpIn_mono (hh a w st) (fun e a w hq => by
    cases e with
    | normal => exact hq
    | ret => exact hq
    | exit j =>
      obtain ⟨J, hj, hJ⟩ := hq
      simp only [Exit.inBlock]
      rw [List.lookup_cons] at hj
      by_cases hij : j = i
      · subst hij; simp at hj; subst hj; simp [toQ]; exact hJ
      · have : (j == i) = false := by simpa using hij
        rw [this] at hj
        first
          | (rw [if_neg hij]; exact ⟨J, hj, hJ⟩)
          | (rw [if_neg (fun e => hij e.symm)]; exact ⟨J, hj, hJ⟩)
    | goto _ => exact hq.elim
    | panic _ => exact hq.elim
    | outgrown => exact hq.elim))
theorem T_scope {x : Code} (hF : F = Fence.wide) (hh : Tr X s h (Wp F n P ⟨nrm, ret, ex⟩ x)) : Tr X s h (Wp F n P ⟨nrm, ret, ex⟩ (.scope x)) := fun a w st => by
  subst hF
  refine wpIn_wide.2 (wp_scope_straight (wp_mono (wpIn_wide.1 (hh a w st)) (fun e a w hq => ?_)))
  cases e <;> first | exact hq | exact hq.elim
theorem T_cond_yes {c : Operand} {t : Bool} (hc : ev s c = some (.bool t)) (ht : t = true) (hh : Tr X s h (Wp F n P ⟨nrm, ret, ex⟩ x)) : Tr X s h (Wp F n P ⟨nrm, ret, ex⟩ (.cond c x y)) := fun a w st => wpIn_cond_true (st.ag c _ (ht ▸ hc)) (hh a w st)
theorem T_cond_no {c : Operand} {t : Bool} (hc : ev s c = some (.bool t)) (ht : t = false) (hh : Tr X s h (Wp F n P ⟨nrm, ret, ex⟩ y)) : Tr X s h (Wp F n P ⟨nrm, ret, ex⟩ (.cond c x y)) := fun a w st => wpIn_cond_false (st.ag c _ (ht ▸ hc)) (hh a w st)
theorem T_cond_t {c : Operand} (hc : ev s c = some (.bool true)) (hh : Tr X s h (Wp F n P ⟨nrm, ret, ex⟩ x)) : Tr X s h (Wp F n P ⟨nrm, ret, ex⟩ (.cond c x y)) := fun a w st => wpIn_cond_true (st.ag c _ hc) (hh a w st)
theorem T_cond_f {c : Operand} (hc : ev s c = some (.bool false)) (hh : Tr X s h (Wp F n P ⟨nrm, ret, ex⟩ y)) : Tr X s h (Wp F n P ⟨nrm, ret, ex⟩ (.cond c x y)) := fun a w st => wpIn_cond_false (st.ag c _ hc) (hh a w st)
theorem T_cond {c : Operand} (t : Bool) (hc : ev s c = some (.bool t)) (ht : t = true → Tr X s h (Wp F n P ⟨nrm, ret, ex⟩ x)) (hf : t = false → Tr X s h (Wp F n P ⟨nrm, ret, ex⟩ y)) : Tr X s h (Wp F n P ⟨nrm, ret, ex⟩ (.cond c x y)) := by
  cases t with
  | true => exact T_cond_t hc (ht rfl)
  | false => exact T_cond_f hc (hf rfl)
theorem T_reg {id : Nat} {os : List Oper} (hF : Wid F) (hd : noDefer os = true) (hh : Tr X s h (Ls P os.toArray nrm os)) : Tr X s h (Wp F n P ⟨nrm, ret, ex⟩ (.region id os.toArray false)) := fun a w st => by
  have h1 : ∀ e a w, QK nrm e a w → toQ ⟨nrm, ret, ex⟩ e a w := fun e a w hq => by cases e <;> first | exact hq | exact hq.elim
  rcases hF with rfl | ⟨l, rfl⟩
  · exact wpIn_wide.2 (wp_mono (wp_region_lit (hh a w st)) h1)
  · exact wpIn_mono (region_lit_in (l := l) hd (qk_lets _) (hh a w st)) h1
theorem T_regd {id : Nat} {os : List Oper} (hF : Wid F) (hm : P.follows .mixedOrders = true) (hd : noDefer os = true) (hh : Tr X s h (An P os.toArray nrm os.toArray.size (Array.replicate os.toArray.size false))) : Tr X s h (Wp F n P ⟨nrm, ret, ex⟩ (.region id os.toArray true)) := fun a w st => by
  have h1 : ∀ e a w, QK nrm e a w → toQ ⟨nrm, ret, ex⟩ e a w := fun e a w hq => by cases e <;> first | exact hq | exact hq.elim
  rcases hF with rfl | ⟨l, rfl⟩
  · exact wpIn_wide.2 (wp_mono (wp_region_any hm (hh a _ st.drew)) h1)
  · exact wpIn_mono (region_any_in (l := l) hm hd (qk_lets _) (hh a _ st.drew)) h1
theorem exists_least {S : Nat → Prop} : ∀ (m : Nat), S m → ∃ k, S k ∧ ∀ j, S j → k ≤ j := by
  intro m
  induction m using Nat.strongRecOn with
  | _ m ih =>
    intro hm
    by_cases hx : ∃ j, j < m ∧ S j
    · obtain ⟨j, hj, hs⟩ := hx; exact ih j hj hs
    · exact ⟨m, hm, fun j hj => Nat.le_of_not_lt fun h => hx ⟨j, h, hj⟩⟩
open Classical in
noncomputable def least (S : Nat → Prop) : Nat := if h : ∃ m, S m then Classical.choose (exists_least h.choose h.choose_spec) else 0
theorem least_spec {S : Nat → Prop} {m : Nat} (hm : S m) : S (least S) ∧ ∀ j, S j → least S ≤ j := by
  have h : ∃ m, S m := ⟨m, hm⟩
  unfold least
  rw [dif_pos h]
  exact Classical.choose_spec (exists_least h.choose h.choose_spec)
def Again {T : Type} (X : Cx) (p : T → Prop) (σ : T → List (Nat × Value)) (η : T → List HA) (μ : T → Nat) (t : T) : Jd := fun a w => ∃ t', p t' ∧ μ t' < μ t ∧ St X (σ t') (η t') a w
def Meet {T : Type} (X : Cx) (p : T → Prop) (σ : T → List (Nat × Value)) (η : T → List HA) : Jd := fun a w => ∃ t, p t ∧ St X (σ t) (η t) a w
theorem T_loop {T : Type} (p : T → Prop) (σ : T → List (Nat × Value)) (η : T → List HA) (μ : T → Nat) (t0 : T) (hp : p t0) (hs : Sub s (σ t0)) (is : List Nat) (hi : Pick h is (η t0))
    (round : ∀ t, p t → Tr X (σ t) (η t) (Wp F n P ⟨Again X p σ η μ t, ret, ex⟩ x)) : Tr X s h (Wp F n P ⟨nrm, ret, ex⟩ (.loop x)) := fun a w st => by
  let Sx : Act → World → Nat → Prop := fun a w m => ∃ t, p t ∧ μ t = m ∧ St X (σ t) (η t) a w
  refine wpIn_loop (fun a w => ∃ m, Sx a w m) (fun a w => least (Sx a w)) ⟨μ t0, t0, hp, rfl, (st.slots hs.spec).pick hi⟩ ?_
  rintro a w ⟨m, hm⟩
  obtain ⟨⟨t, ht, hmt, hst⟩, hle⟩ := least_spec hm
  refine wpIn_mono (round t ht a w hst) (fun e a' w' hq => ?_)
  cases e with
  | normal =>
    obtain ⟨t', h1, h2, h3⟩ := hq
    have h4 : Sx a' w' (μ t') := ⟨t', h1, rfl, h3⟩
    refine ⟨⟨_, h4⟩, ?_⟩
    have := (least_spec h4).2 _ h4
    omega
  | ret => exact hq
  | exit j => exact hq
  | goto _ => exact hq.elim
  | panic _ => exact hq.elim
  | outgrown => exact hq.elim
theorem T_again {T : Type} {p : T → Prop} {σ : T → List (Nat × Value)} {η : T → List HA} {μ : T → Nat} {t : T} (t' : T) (hp : p t') (hm : μ t' < μ t) (hs : Sub s (σ t')) (is : List Nat) (hi : Pick h is (η t')) :
    Tr X s h (Again X p σ η μ t) := fun a w st => ⟨t', hp, hm, (st.slots hs.spec).pick hi⟩
theorem T_meet {T : Type} {p : T → Prop} {σ : T → List (Nat × Value)} {η : T → List HA} (t : T) (hp : p t) (hs : Sub s (σ t)) (is : List Nat) (hi : Pick h is (η t)) :
    Tr X s h (Meet X p σ η) := fun a w st => ⟨t, hp, (st.slots hs.spec).pick hi⟩
end
structure Post (C : List Nat) (w w' : World) (hs : List HA) : Prop where
  kp : Keep C w w'
  ok : ∀ x ∈ hs, x.ok w'
  fr : ∀ x ∈ hs, ∀ k ∈ x.frs, k ∈ C ∨ w.heap.size ≤ k
  nd : (hs.flatMap HA.ids).Nodup
  rd : ∀ x ∈ hs, ∀ r ∈ x.rids, r ∈ x.frs ∧ ∀ y ∈ hs, r ∉ y.ids
  os : ∀ x ∈ hs, x.os = [] ∧ x.bs = none
def Ret {T : Type} (C : List Nat) (w : World) (q : T → Prop) (res : T → Value) (hs : T → List HA) : Ending → World → Prop := fun e w' => ∃ t, q t ∧ e = .returned (res t) ∧ Post C w w' (hs t)
theorem Post.none {w w' : World} (h : Below w.heap.size w w') : Post [] w w' [] := ⟨Keep.of_below h, by simp, by simp, by simp, by simp, by simp⟩
theorem below_of_ret {P : Program} {f : FuncId} {args : Array Value} {w : World} {v : Value} {q : Unit → Prop} {hs : Unit → List HA} (h : Calls P f args w (Ret [] w q (fun _ => v) hs)) : Calls P f args w fun e w' => e = .returned v ∧ Below w.heap.size w w' :=
  h.mono fun e w' ⟨_, _, he, hp⟩ => ⟨he, hp.kp.below⟩
def enumS : Nat → List Value → List (Nat × Value)
  | _, [] => []
  | i, v :: l => (i, v) :: enumS (i + 1) l
theorem enumS_spec : ∀ (l : List Value) (i k : Nat) (v : Value), (enumS i l).lookup k = some v → i ≤ k ∧ l[k - i]? = some v
  | [], _, _, _, e => by cases e
  | u :: l, i, k, v, e => by
    rw [enumS, List.lookup_cons] at e
    by_cases hk : k = i
    · subst hk; simp at e; subst e; exact ⟨Nat.le_refl _, by simp⟩
    · have : (k == i) = false := by simpa using hk
      rw [this] at e
      obtain ⟨h1, h2⟩ := enumS_spec l (i + 1) k v e
      refine ⟨by omega, ?_⟩
      rw [show k - i = (k - (i + 1)) + 1 by omega, List.getElem?_cons_succ]
      exact h2
def Own (C : List Nat) (h : List HA) (w : World) : Prop := (∀ x ∈ h, x.os = [] ∧ x.bs = none) ∧ (∀ x ∈ h, x.ok w) ∧ (∀ x ∈ h, ∀ k ∈ x.frs, k ∈ C) ∧ (h.flatMap HA.ids).Nodup ∧ ∀ x ∈ h, ∀ y ∈ h, ∀ r ∈ x.rids, r ∉ y.ids
def RetJ (P : Program) (fn : Func) (R : Ending → World → Prop) : Jd := fun a w => a.defers = [] ∧ ∃ v, (results fn a.tmps).run P w = .ok v w ∧ R (.returned v) w
section
variable {P : Program} {f : FuncId} {fn : Func} {c : Code} {R : Ending → World → Prop} {w : World}
theorem st_enter {N : Nat} (C : List Nat) (args : List Value) (h : List HA) (hN : args.length ≤ N) (hO : Own C h w) : St ⟨N, C, w, w.heap.size, fun _ => True, []⟩ (enumS 0 args) h { tmps := args.toArray ++ Array.replicate (N - args.toArray.size) undef, defers := [] } w := by
  refine ⟨by simp; omega, rfl, ?_, Keep.refl _ _, hO.2.1, ⟨Nat.le_refl _, Nat.le_refl _⟩, fun x hx k hk => .inl (hO.2.2.1 x hx k hk), hO.2.2.2.1, hO.2.2.2.2, fun x hx o ho => (by rw [(hO.1 x hx).1] at ho; cases ho), fun x hx B hB => (by rw [(hO.1 x hx).2] at hB; cases hB), fun _ _ => trivial, fun _ _ _ _ => .inl trivial⟩
  intro k v hk
  have h1 := (enumS_spec args 0 k v hk).2
  rw [Nat.sub_zero] at h1
  have h2 : k < args.length := (List.getElem?_eq_some_iff.1 h1).1
  rw [Array.getElem?_append_left (by simpa using h2)]
  simpa using h1
theorem enter (hf : P.funcs[f]? = some fn) (hb : fn.body = some c) (C : List Nat) (args : List Value) (h : List HA) (hN : Nat.ble args.length fn.ntmps = true) (hO : Own C h w)
    (hh : Tr ⟨fn.ntmps, C, w, w.heap.size, fun _ => True, []⟩ (enumS 0 args) h (Wp Fence.wide 9 P ⟨RetJ P fn R, RetJ P fn R, []⟩ c)) : Calls P f args.toArray w R := by
  refine (callsIn_wide (n := 9)).1 (callsIn_of_wp hf hb trivial (wpIn_mono (hh _ _ (st_enter C args h (Nat.le_of_ble_eq_true hN) hO)) (fun e a w hq => ?_)) rfl)
  cases e with
  | normal => exact hq
  | ret => exact hq
  | exit i => obtain ⟨J, hj, _⟩ := hq; cases hj
  | goto _ => exact hq.elim
  | panic _ => exact hq.elim
  | outgrown => exact hq.elim
end
section
variable {P : Program} {fn : Func} {X : Cx} {s : List (Nat × Value)} {h : List HA}
theorem post_of_st {N : Nat} {C : List Nat} {w0 : World} {rs : Nat → Prop} {ds : List Deferred} {a : Act} {w : World} {hs : List HA} (st : St ⟨N, C, w0, w0.heap.size, rs, ds⟩ s hs a w) (hr : hs.all HA.outB = true) : Post C w0 w hs :=
  ⟨st.kp, st.ok, st.fr, st.nd, fun x hx r hrr => ⟨HA.rids_frs (List.all_eq_true.1 hr x hx) hrr, fun y hy => st.dj x hx y hy r hrr⟩, fun x hx => (by have := List.all_eq_true.1 hr x hx; cases x <;> first | exact ⟨rfl, rfl⟩ | (cases this; done))⟩
def ResV (P : Program) (fn : Func) (s : List (Nat × Value)) (h : List HA) (v : Value) : Prop := ∀ tmps : Array Value, (∀ k u, s.lookup k = some u → tmps[k]? = some u) → ∀ w, HOK h w → (results fn tmps).run P w = .ok v w
theorem T_fin {N : Nat} {C : List Nat} {w0 : World} {rs : Nat → Prop} {T : Type} {q : T → Prop} {res : T → Value} {hs : T → List HA} (t : T) (hq : q t) (hv : ResV P fn s h (res t)) (is : List Nat) (hp : Pick h is (hs t)) (hr : (hs t).all HA.outB = true) :
    Tr ⟨N, C, w0, w0.heap.size, rs, []⟩ s h (RetJ P fn (Ret C w0 q res hs)) := fun a w st => ⟨st.df, res t, hv _ st.sl _ st.ok, t, hq, rfl, post_of_st (st.pick hp) hr⟩
theorem res1 {t : Nat} {v : Value} (hr : fn.results = #[.tmp t]) (hv : s.lookup t = some v) : ResV P fn s h v := fun tmps hs w hw => by
  simp [results, hr, go_sem, Array.getD_eq_getD_getElem?, hs t v hv]
theorem res2 {t u : Nat} {v v' : Value} (hr : fn.results = #[.tmp t, .tmp u]) (hv : s.lookup t = some v) (hv' : s.lookup u = some v') : ResV P fn s h (.tuple #[v, v']) := fun tmps hs w hw => by
  simp [results, hr, go_sem, Array.getD_eq_getD_getElem?, hs t v hv, hs u v' hv']
end
end Go.Proofs.YtlplpmkdebemnaaGreat.Fw
namespace Go.Proofs.YtlplpmkdebemnaaGreat.Fw
open Go.RowKit Bv
section
variable {P : Program} {ops : Array Oper} {Q : Exit → Act → World → Prop} {md : Region.Mode} {S : World → Prop} {kb : Nat}
def Closed (md : Region.Mode) (ops : Array Oper) (l : Array Bool) : Prop := ∀ j oj, l.getD j false = true → ops[j]? = some oj → ∀ e ∈ oj.after, Region.binds md e = true → l.getD e.on false = true
def closedB (md : Region.Mode) (ops : Array Oper) (l : Array Bool) : Bool := (List.range ops.size).all fun j => !l.getD j false || (match ops[j]? with | some oj => oj.after.all fun e => !Region.binds md e || l.getD e.on false | none => true)
theorem closedB_spec {l : Array Bool} (h : closedB md ops l = true) : Closed md ops l := by
  intro j oj hj ho e he hb
  have h1 := List.all_eq_true.1 h j (List.mem_range.2 (Array.getElem?_eq_some_iff.1 ho).1)
  simp only [hj, ho, Bool.not_true, Bool.false_or] at h1
  rw [← Array.all_toList] at h1
  have h2 := List.all_eq_true.1 h1 e (by simpa using he)
  simpa [hb] using h2
def dep (md : Region.Mode) (ops : Array Oper) (i : Nat) : Nat → Nat → Bool
  | 0, _ => false
  | f + 1, k => match ops[k]? with
    | none => false
    | some o => o.after.any fun e => Region.binds md e && (e.on == i || dep md ops i f e.on)
theorem dep_spec {i : Nat} {l : Array Bool} (hc : Closed md ops l) : ∀ (f k : Nat), dep md ops i f k = true → l.getD k false = true → l.getD i false = true
  | 0, _, h, _ => by cases h
  | f + 1, k, h, hl => by
    unfold dep at h
    cases ho : ops[k]? with
    | none => rw [ho] at h; cases h
    | some o =>
      rw [ho] at h
      simp only at h
      rw [← Array.any_toList] at h
      obtain ⟨e, he', h1⟩ := List.any_eq_true.1 h
      have he : e ∈ o.after := by simpa using he'
      simp only [Bool.and_eq_true, Bool.or_eq_true, beq_iff_eq] at h1
      have h2 := hc k o hl ho e he h1.1
      rcases h1.2 with h3 | h3
      · rw [← h3]; exact h2
      · exact dep_spec hc f e.on h3 h2
def wpAnyD (P : Program) (md : Region.Mode) (ops : Array Oper) (Q : Exit → Act → World → Prop) (S : World → Prop) (kb : Nat) : Nat → Array Bool → Act → World → Prop
  | 0, l, a, w => Region.ready md ops l = [] ∧ Q .normal a w
  | f + 1, l, a, w => (Region.ready md ops l = [] → Q .normal a w) ∧
    ∀ i ∈ Region.ready md ops l, wpOp P ops Q i (fun a' w' => ((l.setIfInBounds i true).getD kb false = false → S w') ∧ wpAnyD P md ops Q S kb f (l.setIfInBounds i true) a' w') a w
theorem wpAny_of_D : ∀ (f : Nat) (l : Array Bool) (a : Act) (w : World), wpAnyD P md ops Q S kb f l a w → wpAny P md ops Q f l a w
  | 0, _, _, _, h => h
  | f + 1, _, _, _, h => ⟨h.1, fun i hi => wpOp_mono (fun a' w' h' => wpAny_of_D f _ a' w' h'.2) (h.2 i hi)⟩
theorem getD_set_of {l : Array Bool} {i k : Nat} (h : l.getD k false = true) : (l.setIfInBounds i true).getD k false = true := by
  simp only [Array.getD_eq_getD_getElem?, Array.getElem?_setIfInBounds] at *
  by_cases e : i = k
  · subst e
    by_cases hi : i < l.size
    · simp [hi]
    · simp [Array.getElem?_eq_none (Nat.le_of_not_lt hi)] at h
  · simp [e, h]
theorem closed_set {l : Array Bool} {j : Nat} (hc : Closed md ops l) (hj : j ∈ Region.ready md ops l) (hs : l.size = ops.size) : Closed md ops (l.setIfInBounds j true) := by
  obtain ⟨hun, oj, hoj, hall⟩ := mem_ready.1 hj
  intro k ok hk hok e he hb
  by_cases hkj : k = j
  · subst hkj
    rw [hoj] at hok
    cases hok
    exact getD_set_of (hall e he hb)
  · rw [getD_set_ne false (Ne.symm hkj)] at hk
    exact getD_set_of (hc k ok hk hok e he hb)
theorem wpAnyD_first {i : Nat} {oi : Oper} {v : Value} (hi : ops[i]? = some oi) (hsel : ∀ (j : Nat) (o : Oper) cs b, ops[j]? = some o → o.op ≠ .select cs b)
    (hQ : ∀ c a w, Q (.panic c) (a.put oi.dst v) w → Q (.panic c) a w) (hne : kb ≠ i) :
    ∀ (fuel : Nat) (l : Array Bool) (a : Act) (w : World), l.size = ops.size → Closed md ops l → ((∃ f, dep md ops i f kb = true) ∨ ops.size ≤ kb) →
      (∀ j oj, ops[j]? = some oj → j ≠ i → l.getD j true = false → (∀ e ∈ oj.after, Region.binds md e = true → e.on ≠ i) → oi.apart ops oj = true) →
      i ∈ Region.ready md ops l → YieldsIf P ops S oi v a → S w →
      wpAnyD P md ops Q S kb fuel (l.setIfInBounds i true) (a.put oi.dst v) w → wpAnyD P md ops Q S kb (fuel + 1) l a w := by
  intro fuel
  induction fuel with
  | zero =>
    intro l a w hsz hc hk _ hr hy hS H
    refine ⟨fun h => (by rw [h] at hr; cases hr), fun j hj => ?_⟩
    by_cases hji : j = i
    · subst hji; exact hy.wpOp hi hS ⟨fun _ => hS, H⟩
    · have := ready_mono hj hji
      rw [H.1] at this
      cases this
  | succ fuel ih =>
    intro l a w hsz hc hk hfree hr hy hS H
    refine ⟨fun h => (by rw [h] at hr; cases hr), fun j hj => ?_⟩
    by_cases hji : j = i
    · subst hji; exact hy.wpOp hi hS ⟨fun _ => hS, H⟩
    · have h1 := H.2 j (ready_mono hj hji)
      obtain ⟨hjun, oj, hoj, hall⟩ := mem_ready.1 hj
      have hiun : l.getD i false = false := by
        have h0 := (mem_ready.1 hr).1
        simp only [Array.getD_eq_getD_getElem?] at h0 ⊢
        cases hx : l[i]? with
        | none => rfl
        | some b => rw [hx] at h0; simpa using h0
      have hnot : ∀ e ∈ oj.after, Region.binds md e = true → e.on ≠ i := fun e he hb heq => by
        have h1 := hall e he hb
        rw [heq, hiun] at h1
        cases h1
      have h2 := wpOp_putIf hoj (hfree j oj hoj hji hjun hnot) (fun cs b => hsel i oi cs b hi) (fun cs b => hsel j oj cs b hoj) hQ hy h1
      have hfree' : ∀ k ok, ops[k]? = some ok → k ≠ i → (l.setIfInBounds j true).getD k true = false →
          (∀ e ∈ ok.after, Region.binds md e = true → e.on ≠ i) → oi.apart ops ok = true := fun k ok hk hki hun hno => by
        refine hfree k ok hk hki ?_ hno
        by_cases hjk : j = k
        · subst hjk; exact hjun
        · rw [getD_set_ne true hjk] at hun; exact hun
      have hcj := closed_set hc hj hsz
      have hij : (l.setIfInBounds j true).getD i false = false := by rw [getD_set_ne false hji]; exact hiun
      have hkj : (l.setIfInBounds j true).getD kb false = false := by
        rcases hk with ⟨f, hd⟩ | hlt
        · cases hx : (l.setIfInBounds j true).getD kb false with
          | false => rfl
          | true => have := dep_spec hcj f kb hd hx; rw [hij] at this; cases this
        · simp [Array.getElem?_eq_none (show (l.setIfInBounds j true).size ≤ kb by simpa [hsz] using hlt)]
      have hkij : ((l.setIfInBounds i true).setIfInBounds j true).getD kb false = false := by
        rw [Array.setIfInBounds_comm _ _ (Ne.symm hji), getD_set_ne false (Ne.symm hne)]; exact hkj
      refine wpOp_mono (fun a' w' h3 => ⟨fun _ => h3.2.1 hkij, ih (l.setIfInBounds j true) a' w' (by simpa using hsz) hcj hk hfree' (ready_mono hr (Ne.symm hji)) h3.1 (h3.2.1 hkij) ?_⟩) h2
      rw [Array.setIfInBounds_comm _ _ hji]
      exact h3.2.2
theorem wpAnyD_firstP {i : Nat} {oi : Oper} {v : Value} (hi : ops[i]? = some oi) (hsel : ∀ (j : Nat) (o : Oper) cs b, ops[j]? = some o → o.op ≠ .select cs b)
    (hQ : ∀ c a w, Q (.panic c) (a.put oi.dst v) w → Q (.panic c) a w) (hne : kb ≠ i) :
    ∀ (fuel : Nat) (l : Array Bool) (a : Act) (w : World), (l.getD kb false = false → S w) →
      (∀ j oj, ops[j]? = some oj → j ≠ i → l.getD j true = false → (∀ e ∈ oj.after, Region.binds md e = true → e.on ≠ i) → oi.apart ops oj = true) →
      i ∈ Region.ready md ops l → YieldsIf P ops (fun _ => True) oi v a →
      wpAnyD P md ops Q S kb fuel (l.setIfInBounds i true) (a.put oi.dst v) w → wpAnyD P md ops Q S kb (fuel + 1) l a w := by
  have hkeep : ∀ (l : Array Bool), (l.setIfInBounds i true).getD kb false = l.getD kb false := fun l => getD_set_ne false (Ne.symm hne)
  intro fuel
  induction fuel with
  | zero =>
    intro l a w hS _ hr hy H
    refine ⟨fun h => (by rw [h] at hr; cases hr), fun j hj => ?_⟩
    by_cases hji : j = i
    · subst hji; exact hy.wpOp hi trivial ⟨fun h => hS (by rw [hkeep] at h; exact h), H⟩
    · have := ready_mono hj hji
      rw [H.1] at this
      cases this
  | succ fuel ih =>
    intro l a w hS hfree hr hy H
    refine ⟨fun h => (by rw [h] at hr; cases hr), fun j hj => ?_⟩
    by_cases hji : j = i
    · subst hji; exact hy.wpOp hi trivial ⟨fun h => hS (by rw [hkeep] at h; exact h), H⟩
    · have h1 := H.2 j (ready_mono hj hji)
      obtain ⟨hjun, oj, hoj, hall⟩ := mem_ready.1 hj
      have hiun : l.getD i false = false := by
        have h0 := (mem_ready.1 hr).1
        simp only [Array.getD_eq_getD_getElem?] at h0 ⊢
        cases hx : l[i]? with
        | none => rfl
        | some b => rw [hx] at h0; simpa using h0
      have hnot : ∀ e ∈ oj.after, Region.binds md e = true → e.on ≠ i := fun e he hb heq => by
        have h1 := hall e he hb
        rw [heq, hiun] at h1
        cases h1
      have h2 := wpOp_putIf hoj (hfree j oj hoj hji hjun hnot) (fun cs b => hsel i oi cs b hi) (fun cs b => hsel j oj cs b hoj) hQ hy h1
      have hfree' : ∀ k ok, ops[k]? = some ok → k ≠ i → (l.setIfInBounds j true).getD k true = false →
          (∀ e ∈ ok.after, Region.binds md e = true → e.on ≠ i) → oi.apart ops ok = true := fun k ok hk hki hun hno => by
        refine hfree k ok hk hki ?_ hno
        by_cases hjk : j = k
        · subst hjk; exact hjun
        · rw [getD_set_ne true hjk] at hun; exact hun
      have hS2 : ∀ w', (((l.setIfInBounds i true).setIfInBounds j true).getD kb false = false → S w') → ((l.setIfInBounds j true).getD kb false = false → S w') := by
        intro w' h hk
        exact h (by rw [Array.setIfInBounds_comm _ _ (Ne.symm hji), hkeep]; exact hk)
      refine wpOp_mono (fun a' w' h3 => ⟨hS2 w' h3.2.1, ih (l.setIfInBounds j true) a' w' (hS2 w' h3.2.1) hfree' (ready_mono hr (Ne.symm hji)) h3.1 ?_⟩) h2
      rw [Array.setIfInBounds_comm _ _ hji]
      exact h3.2.2
theorem wpAnyD_mono {Q' : Exit → Act → World → Prop} (hn : ∀ a w, Q .normal a w → Q' .normal a w) (hp : ∀ c a w, Q (.panic c) a w → Q' (.panic c) a w) (hl : LetsOut Q → LetsOut Q') : ∀ (f : Nat) (l : Array Bool) (a : Act) (w : World), wpAnyD P md ops Q S kb f l a w → wpAnyD P md ops Q' S kb f l a w := by
  have hop : ∀ {i : Nat} {a : Act} {w : World} {K : Act → World → Prop}, wpOp P ops Q i K a w → wpOp P ops Q' i K a w := by
    intro i a w K h
    unfold wpOp at *
    split
    · rename_i ho; simpa [ho] using h
    · rename_i o ho
      simp only [ho] at h
      split
      · rename_i hw
        rw [if_pos hw] at h
        rcases h with h | ⟨h1, h2⟩
        · refine .inl ?_
          unfold Oper.wp at *
          generalize (execOp a.eval o).run P w = r at *
          cases r with
          | ok n w' =>
            cases n <;> simp only [Oper.upon] at h ⊢ <;> first
              | exact h
              | exact Calls.mono h (fun e w'' he => by cases e <;> first | exact he | exact hp _ _ _ he | exact hl he)
          | halt x w' => cases x <;> simp only [Oper.upon] at h ⊢ <;> first | exact h | exact hp _ _ _ h
        · exact .inr ⟨h1, hl h2⟩
      · rename_i hw; rw [if_neg hw] at h; exact h
  intro f
  induction f with
  | zero => exact fun l a w h => ⟨h.1, hn _ _ h.2⟩
  | succ f ih => exact fun l a w h => ⟨fun e => hn _ _ (h.1 e), fun i hi => wpOp_mono (fun a' w' h' => ⟨h'.1, ih _ _ _ h'.2⟩) (hop (h.2 i hi))⟩
end
def Ld (P : Program) (s : List (Nat × Value)) (h : List HA) (o : Oper) (v : Value) : Prop := ∀ e, Ag s e → ∀ w, HOK h w → (execOp e o).run P w = .ok (.value v) w
def Pr (P : Program) (s : List (Nat × Value)) (h : List HA) (o : Oper) (v : Value) : Prop := ∀ e, Ag s e → ∀ w, HOK h w → ∀ w', (execOp e o).run P w' = .ok (.value v) w'
theorem Pr.ld {P : Program} {s : List (Nat × Value)} {h : List HA} {o : Oper} {v : Value} (hp : Pr P s h o v) : Ld P s h o v := fun e he w hw => hp e he w hw w
def wantS (ops : Array Oper) (s : List (Nat × Value)) (o : Oper) : Option Bool :=
  match o.guard with
  | none => some true
  | some (j, b) => match ((ops[j]?).bind (·.dst)).bind (fun d => s.lookup d) with
    | some (.bool c) => some (c == b)
    | some _ => some false
    | none => none
section
variable {P : Program} {X : Cx} {s : List (Nat × Value)} {h : List HA} {a : Act} {w : World} {ops : Array Oper} {o : Oper} {K K0 : Jd} {v : Value}
theorem wantS_spec {b : Bool} (st : St X s h a w) (hw : wantS ops s o = some b) : Region.wanted o (yielded ops a.tmps) = b := by
  unfold wantS at hw
  unfold Region.wanted
  cases hg : o.guard with
  | none => rw [hg] at hw; simpa using hw
  | some jb =>
    obtain ⟨j, c⟩ := jb
    rw [hg] at hw
    simp only at hw ⊢
    cases hd : (ops[j]?).bind (·.dst) with
    | none => rw [hd] at hw; simp at hw
    | some d =>
      rw [hd] at hw
      simp only [Option.bind_some] at hw
      cases hl : s.lookup d with
      | none => rw [hl] at hw; simp at hw
      | some u =>
        rw [hl] at hw
        have h1 := st.sl d u hl
        cases u with
        | bool t =>
          simp only [Option.some.injEq] at hw
          unfold yielded
          simp only [hd, Option.bind_some, h1]
          rw [← hw]
          rcases t <;> rcases c <;> rfl
        | _ =>
          simp only [Option.some.injEq] at hw
          unfold yielded
          simp only [hd, Option.bind_some, h1]
          rw [← hw]
          rfl
theorem L_nil (hh : Tr X s h K) : Tr X s h (Ls P ops K []) := fun a w st => hh a w st
theorem L_op {os : List Oper} (hw : wantS ops s o = some true) (hh : Tr X s h (Op P o (Ls P ops K os) K)) : Tr X s h (Ls P ops K (o :: os)) := fun a w st => by
  unfold Ls wpList
  rw [if_pos (wantS_spec st hw)]
  refine .inl ?_
  have := hh a w st
  unfold Op at this
  exact this
theorem L_skip {os : List Oper} {d : Nat} (hw : wantS ops s o = some false) (hd : o.dst = some d) (hN : Nat.blt d X.N = true) (hh : Tr X ((d, undef) :: s) h (Ls P ops K os)) : Tr X s h (Ls P ops K (o :: os)) := fun a w st => by
  unfold Ls wpList
  rw [if_neg (by rw [wantS_spec st hw]; exact Bool.false_ne_true), hd]
  exact hh _ w (st.put (Nat.le_of_ble_eq_true hN) undef)
theorem op_ld {d : Nat} (hp : Ld P s h o v) (hd : o.dst = some d) (hN : Nat.blt d X.N = true) (hh : Tr X ((d, v) :: s) h K) : Tr X s h (Op P o K K0) := fun a w st => by
  unfold Op Oper.wp
  rw [hp _ st.ag w st.ok, Oper.upon_value, hd]
  exact hh _ w (st.put (Nat.le_of_ble_eq_true hN) v)
theorem op_pr {d : Nat} (hp : Pr P s h o v) (hd : o.dst = some d) (hN : Nat.blt d X.N = true) (hh : Tr X ((d, v) :: s) h K) : Tr X s h (Op P o K K0) := op_ld hp.ld hd hN hh
def AnD (P : Program) (ops : Array Oper) (K : Jd) (hS : List HA) (kb f : Nat) (l : Array Bool) : Jd := fun a w => wpAnyD P .any ops (QK K) (HOK hS) kb f l a w
def AnI (P : Program) (ops : Array Oper) (K : Jd) (hS : List HA) (kb f : Nat) (l : Array Bool) : Jd := fun a w => (l.getD kb false = false → HOK hS w) ∧ wpAnyD P .any ops (QK K) (HOK hS) kb f l a w
def PickM (h : List HA) (is : List Nat) (h' : List HA) : Prop := is.map (h[·]?) = h'.map some
theorem PickM.hok {is : List Nat} {h' : List HA} (hp : PickM h is h') {w : World} (hw : HOK h w) : HOK h' w := by
  intro x hx
  have : some x ∈ is.map (h[·]?) := by rw [hp]; exact List.mem_map.2 ⟨x, hx, rfl⟩
  obtain ⟨i, _, hi⟩ := List.mem_map.1 this
  exact hw x (List.mem_of_getElem? hi)
theorem D_take {hS : List HA} {kb : Nat} {i : Nat} {oi : Oper} {d : Nat} {f : Nat} {l : Array Bool} (is : List Nat) (hi : ops[i]? = some oi) (hs : (Region.noSelect ops && Region.free .any ops l i && (Region.ready .any ops l).contains i && closedB .any ops l && (l.size == ops.size) && (kb != i) && (dep .any ops i ops.size kb || Nat.ble ops.size kb)) = true)
    (hw : wantS ops s oi = some true) (hp : Ld P s hS oi v) (hS' : PickM h is hS) (hd : oi.dst = some d) (hN : Nat.blt d X.N = true) (hh : Tr X ((d, v) :: s) h (AnD P ops K hS kb f (l.setIfInBounds i true))) : Tr X s h (AnD P ops K hS kb (f + 1) l) := fun a w st => by
  simp only [Bool.and_eq_true, beq_iff_eq, bne_iff_ne, ne_eq, Bool.or_eq_true] at hs
  obtain ⟨⟨⟨⟨⟨⟨h1, h2⟩, h3⟩, h4⟩, h5⟩, h6⟩, h7⟩ := hs
  refine wpAnyD_first hi (Region.noSelect_spec h1) (fun c a w hq => hq.elim) h6 f l a w h5 (closedB_spec h4) (h7.imp (fun h => ⟨_, h⟩) (fun h => Nat.le_of_ble_eq_true h)) (Region.free_spec hi h2) (by simpa using h3)
    (.inl ⟨wantS_spec st hw, fun w' hw' => hp _ st.ag w' hw'⟩) (hS'.hok st.ok) ?_
  rw [hd]
  exact hh _ w (st.put (Nat.le_of_ble_eq_true hN) v)
theorem D_pure {hS : List HA} {kb : Nat} {i : Nat} {oi : Oper} {d : Nat} {f : Nat} {l : Array Bool} (is : List Nat) (hi : ops[i]? = some oi) (hs : (Region.noSelect ops && Region.free .any ops l i && (Region.ready .any ops l).contains i && (kb != i)) = true)
    (hw : wantS ops s oi = some true) (hp : Pr P s h oi v) (hS' : l.getD kb false = true ∨ PickM h is hS) (hd : oi.dst = some d) (hN : Nat.blt d X.N = true) (hh : Tr X ((d, v) :: s) h (AnD P ops K hS kb f (l.setIfInBounds i true))) : Tr X s h (AnD P ops K hS kb (f + 1) l) := fun a w st => by
  simp only [Bool.and_eq_true, bne_iff_ne, ne_eq] at hs
  obtain ⟨⟨⟨h1, h2⟩, h3⟩, h6⟩ := hs
  refine wpAnyD_firstP hi (Region.noSelect_spec h1) (fun c a w hq => hq.elim) h6 f l a w (fun e => hS'.elim (fun h => (by rw [h] at e; cases e)) (fun h => h.hok st.ok)) (Region.free_spec hi h2) (by simpa using h3)
    (.inl ⟨wantS_spec st hw, fun w' _ => hp _ st.ag w st.ok w'⟩) ?_
  rw [hd]
  exact hh _ w (st.put (Nat.le_of_ble_eq_true hN) v)
theorem D_pass {hS : List HA} {kb : Nat} {i : Nat} {oi : Oper} {d : Nat} {f : Nat} {l : Array Bool} (is : List Nat) (hi : ops[i]? = some oi) (hs : (Region.noSelect ops && Region.free .any ops l i && (Region.ready .any ops l).contains i && (kb != i)) = true)
    (hw : wantS ops s oi = some false) (hS' : l.getD kb false = true ∨ PickM h is hS) (hd : oi.dst = some d) (hN : Nat.blt d X.N = true) (hh : Tr X ((d, undef) :: s) h (AnD P ops K hS kb f (l.setIfInBounds i true))) : Tr X s h (AnD P ops K hS kb (f + 1) l) := fun a w st => by
  simp only [Bool.and_eq_true, bne_iff_ne, ne_eq] at hs
  obtain ⟨⟨⟨h1, h2⟩, h3⟩, h6⟩ := hs
  refine wpAnyD_firstP hi (Region.noSelect_spec h1) (fun c a w hq => hq.elim) h6 f l a w (fun e => hS'.elim (fun h => (by rw [h] at e; cases e)) (fun h => h.hok st.ok)) (Region.free_spec hi h2) (by simpa using h3)
    (.inr ⟨wantS_spec st hw, rfl⟩) ?_
  rw [hd]
  exact hh _ w (st.put (Nat.le_of_ble_eq_true hN) undef)
theorem D_join {T : Type} (p : T → Prop) (σ : T → List (Nat × Value)) (η : T → List HA) {hS : List HA} {kb f : Nat} {l : Array Bool} (h1 : Tr X s h (AnD P ops (Meet X p σ η) hS kb f l)) (h2 : ∀ t, p t → Tr X (σ t) (η t) K) : Tr X s h (AnD P ops K hS kb f l) := fun a w st =>
  wpAnyD_mono (fun a w hm => by obtain ⟨t, ht, hst⟩ := hm; exact h2 t ht a w hst) (fun c a w hq => hq.elim) (fun hl => absurd hl (qk_lets _)) f l a w (h1 a w st)
def EachOp (P : Program) (ops : Array Oper) (X : Cx) (s : List (Nat × Value)) (h : List HA) (K : Jd) (hS : List HA) (kb f : Nat) (l : Array Bool) : List Nat → Prop
  | [] => True
  | i :: r => (∃ o, ops[i]? = some o ∧ wantS ops s o = some true ∧ Tr X s h (Op P o (AnI P ops K hS kb f (l.setIfInBounds i true)) K)) ∧ EachOp P ops X s h K hS kb f l r
theorem EachOp.at {hS : List HA} {kb f : Nat} {l : Array Bool} : ∀ {rs : List Nat}, EachOp P ops X s h K hS kb f l rs → ∀ i ∈ rs, ∃ o, ops[i]? = some o ∧ wantS ops s o = some true ∧ Tr X s h (Op P o (AnI P ops K hS kb f (l.setIfInBounds i true)) K)
  | [], _, i, hi => by cases hi
  | j :: r, hh, i, hi => by
    rcases List.mem_cons.1 hi with rfl | hi
    · exact hh.1
    · exact hh.2.at i hi
theorem D_all {hS : List HA} {kb f : Nat} {l : Array Bool} (rs : List Nat) (hr : Region.ready .any ops l = rs) (hne : rs ≠ []) (hh : EachOp P ops X s h K hS kb f l rs) : Tr X s h (AnD P ops K hS kb (f + 1) l) := fun a w st =>
  ⟨fun h0 => absurd (hr ▸ h0) hne, fun i hi => by
    obtain ⟨o, ho, hw, ht⟩ := hh.at i (hr ▸ hi)
    unfold wpOp
    simp only [ho]
    rw [if_pos (wantS_spec st hw)]
    exact .inl (ht a w st)⟩
theorem D_one {hS : List HA} {kb f : Nat} {l : Array Bool} (i : Nat) (o : Oper) (ho : ops[i]? = some o) (hr : (Region.ready .any ops l == [i]) = true) (hw : wantS ops s o = some true) (hh : Tr X s h (Op P o (AnI P ops K hS kb f (l.setIfInBounds i true)) K)) : Tr X s h (AnD P ops K hS kb (f + 1) l) :=
  D_all [i] (by simpa using hr) (by simp) ⟨⟨o, ho, hw, hh⟩, trivial⟩
theorem D_on {hS : List HA} {kb f : Nat} {l : Array Bool} (is : List Nat) (hp : PickM h is hS) (hh : Tr X s h (AnD P ops K hS kb f l)) : Tr X s h (AnI P ops K hS kb f l) := fun a w st => ⟨fun _ => hp.hok st.ok, hh a w st⟩
theorem D_past {hS : List HA} {kb f : Nat} {l : Array Bool} (hk : l.getD kb false = true) (hh : Tr X s h (AnD P ops K hS kb f l)) : Tr X s h (AnI P ops K hS kb f l) := fun a w st => ⟨fun e => (by rw [hk] at e; cases e), hh a w st⟩
theorem D_done {hS : List HA} {kb f : Nat} {l : Array Bool} (hr : (Region.ready .any ops l).isEmpty = true) (hh : Tr X s h K) : Tr X s h (AnD P ops K hS kb f l) := fun a w st => by
  have hr' : Region.ready .any ops l = [] := List.isEmpty_iff.1 hr
  cases f with
  | zero => exact ⟨hr', hh a w st⟩
  | succ f => exact ⟨fun _ => hh a w st, by rw [hr']; simp⟩
theorem T_regD {F : Fence} {n : Nat} {nrm ret : Jd} {ex : List (Nat × Jd)} {id : Nat} {os : List Oper} (hS : List HA) (kb : Nat) (f : Nat) (l : Array Bool) (hF : Wid F) (hm : P.follows .mixedOrders = true) (hd : (noDefer os && (f == os.toArray.size) && (l == Array.replicate os.toArray.size false)) = true) (hh : Tr X s h (AnD P os.toArray nrm hS kb f l)) : Tr X s h (Wp F n P ⟨nrm, ret, ex⟩ (.region id os.toArray true)) := by
  simp only [Bool.and_eq_true, beq_iff_eq] at hd
  obtain ⟨⟨h1, rfl⟩, rfl⟩ := hd
  exact T_regd hF hm h1 (fun a w st => wpAny_of_D _ _ _ _ (hh a w st))
end
end Go.Proofs.YtlplpmkdebemnaaGreat.Fw
namespace Go.Proofs.YtlplpmkdebemnaaGreat.Fw
open Go.RowKit Bv
section
variable {P : Program} {s : List (Nat × Value)} {h : List HA} {o : Oper} {v : Value}
theorem pr_move {x : Operand} (ho : o.op = .move x) (hx : ev s x = some v) : Pr P s h o v := fun e he w hw w' => by unfold execOp; rw [ho]; simp only [he _ _ hx]; rfl
theorem pr_assign {x : Operand} (ho : o.op = .assign x) (hx : ev s x = some v) : Pr P s h o v := fun e he w hw w' => by unfold execOp; rw [ho]; simp only [he _ _ hx]; rfl
theorem pr_bin {bo : BinOp} {t t2 : TypeId} {x y : Operand} {k : IntKind} {a b : Int} (ho : o.op = .binOp bo t x y t2) (hx : ev s x = some (.int k a)) (hy : ev s y = some (.int k b)) (hr : ∀ w, (binOp bo t (.int k a) (.int k b)).run P w = .ok v w) : Pr P s h o v := fun e he w hw w' => by
  unfold execOp; rw [ho]
  simp only [he _ _ hx, he _ _ hy]
  have hg : (eqGuard bo t x y (.int k a) (.int k b)).run P w' = .ok () w' := by unfold eqGuard; cases bo <;> simp
  rw [Sem.run_bind, Sem.run_bind, hg]
  simp only [Result.andThen_ok]
  rw [hr w']; rfl
theorem pr_add {t t2 : TypeId} {x y : Operand} {k : IntKind} {a b c : Int} (hc : k.wrap (a + b) = c) (ho : o.op = .binOp .add t x y t2) (hx : ev s x = some (.int k a)) (hy : ev s y = some (.int k b)) : Pr P s h o (.int k c) :=
  pr_bin ho hx hy (fun w => by simp [binOp, Op.intArith, hc])
theorem pr_sub {t t2 : TypeId} {x y : Operand} {k : IntKind} {a b c : Int} (hc : k.wrap (a - b) = c) (ho : o.op = .binOp .sub t x y t2) (hx : ev s x = some (.int k a)) (hy : ev s y = some (.int k b)) : Pr P s h o (.int k c) :=
  pr_bin ho hx hy (fun w => by simp [binOp, Op.intArith, hc])
theorem pr_mul {t t2 : TypeId} {x y : Operand} {k : IntKind} {a b c : Int} (hc : k.wrap (a * b) = c) (ho : o.op = .binOp .mul t x y t2) (hx : ev s x = some (.int k a)) (hy : ev s y = some (.int k b)) : Pr P s h o (.int k c) :=
  pr_bin ho hx hy (fun w => by simp [binOp, Op.intArith, hc])
theorem pr_and {t t2 : TypeId} {x y : Operand} {k : IntKind} {a b c : Int} (hc : Op.intBits .and k a b = pure (.int k c)) (ho : o.op = .binOp .and t x y t2) (hx : ev s x = some (.int k a)) (hy : ev s y = some (.int k b)) : Pr P s h o (.int k c) :=
  pr_bin ho hx hy (fun w => by simp [binOp, hc])
theorem pr_or {t t2 : TypeId} {x y : Operand} {k : IntKind} {a b c : Int} (hc : Op.intBits .or k a b = pure (.int k c)) (ho : o.op = .binOp .or t x y t2) (hx : ev s x = some (.int k a)) (hy : ev s y = some (.int k b)) : Pr P s h o (.int k c) :=
  pr_bin ho hx hy (fun w => by simp [binOp, hc])
theorem pr_xor {t t2 : TypeId} {x y : Operand} {k : IntKind} {a b c : Int} (hc : Op.intBits .xor k a b = pure (.int k c)) (ho : o.op = .binOp .xor t x y t2) (hx : ev s x = some (.int k a)) (hy : ev s y = some (.int k b)) : Pr P s h o (.int k c) :=
  pr_bin ho hx hy (fun w => by simp [binOp, hc])
theorem pr_andNot {t t2 : TypeId} {x y : Operand} {k : IntKind} {a b c : Int} (hc : Op.intBits .andNot k a b = pure (.int k c)) (ho : o.op = .binOp .andNot t x y t2) (hx : ev s x = some (.int k a)) (hy : ev s y = some (.int k b)) : Pr P s h o (.int k c) :=
  pr_bin ho hx hy (fun w => by simp [binOp, hc])
theorem pr_shift {bo : BinOp} {t t2 : TypeId} {x y : Operand} {k k2 : IntKind} {a b c : Int} (hc : Op.shift bo k a k2 b = pure (.int k c)) (ho : o.op = .binOp bo t x y t2) (hb : (bo == .shl || bo == .shr) = true) (hx : ev s x = some (.int k a)) (hy : ev s y = some (.int k2 b)) : Pr P s h o (.int k c) := fun e he w hw w' => by
  unfold execOp; rw [ho]
  simp only [he _ _ hx, he _ _ hy]
  have hg : (eqGuard bo t x y (.int k a) (.int k2 b)).run P w' = .ok () w' := by unfold eqGuard; cases bo <;> simp
  rw [Sem.run_bind, Sem.run_bind, hg]
  simp only [Result.andThen_ok]
  cases bo <;> first | (cases hb; done) | (simp [binOp, hc])
theorem pr_quo {t t2 : TypeId} {x y : Operand} {a b : Nat} (hb : 0 < b) (ha : (a : Int) ≤ 9223372036854775807) (ho : o.op = .binOp .quo t x y t2) (hx : ev s x = some (.int .i64 (a : Int))) (hy : ev s y = some (.int .i64 (b : Int))) : Pr P s h o (.int .i64 ((a / b : Nat) : Int)) :=
  pr_bin ho hx hy (fun w => by
    have h1 : ¬ (b : Int) = 0 := by omega
    have h2 : (a : Int).tdiv b = ((a / b : Nat) : Int) := by rw [Int.tdiv_eq_ediv_of_nonneg oM]; simp
    have h3 : IntKind.i64.wrap ((a / b : Nat) : Int) = ((a / b : Nat) : Int) := by
      have h4 : a / b ≤ a := Nat.div_le_self a b
      generalize a / b = q at h4 ⊢
      rw [IntKind.wrap_i64]; omega
    simp only [binOp, Op.intDiv, h1, if_false, h2, h3, ne_eq, not_true_eq_false]
    rfl)
theorem pr_rem {t t2 : TypeId} {x y : Operand} {k : IntKind} {a b : Nat} (hb : 0 < b) (ho : o.op = .binOp .rem t x y t2) (hx : ev s x = some (.int k (a : Int))) (hy : ev s y = some (.int k (b : Int))) : Pr P s h o (.int k ((a % b : Nat) : Int)) :=
  pr_bin ho hx hy (fun w => by
    have h1 : ¬ (b : Int) = 0 := by omega
    have h2 : (a : Int).tmod b = ((a % b : Nat) : Int) := by rw [Int.tmod_eq_emod_of_nonneg oM]; simp
    simp only [binOp, Op.intDiv, h1, if_false, h2, ne_eq, not_true_eq_false]
    rfl)
theorem pr_cmp {bo : BinOp} {t t2 : TypeId} {x y : Operand} {k : IntKind} {a b : Int} {c : Bool} (hc : (match bo with | .eql => a == b | .neq => a != b | .lss => decide (a < b) | .leq => decide (a ≤ b) | .gtr => decide (b < a) | .geq => decide (b ≤ a) | _ => false) = c) (hb : (bo == .eql || bo == .neq || bo == .lss || bo == .leq || bo == .gtr || bo == .geq) = true) (ho : o.op = .binOp bo t x y t2) (hx : ev s x = some (.int k a)) (hy : ev s y = some (.int k b)) : Pr P s h o (.bool c) :=
  pr_bin ho hx hy (fun w => by
    cases bo <;> first | (cases hb; done) | (simp only at hc; subst hc; simp [binOp, Op.intCmp, GT.gt, GE.ge]))
theorem pr_un {uo : UnOp} {t : TypeId} {x : Operand} {u : Value} (hr : Op.unary uo u = pure v) (ho : o.op = .unOp uo t x) (hx : ev s x = some u) : Pr P s h o v := fun e he w hw w' => by
  unfold execOp; rw [ho]; simp only [he _ _ hx, hr]; rfl
theorem pr_cv {src dst : TypeId} {x : Operand} {k k2 : IntKind} {a c : Int} {td : TypeDesc} (hc : k.wrap a = c) (hs : P.underlying src = some td) (hd : P.underlying dst = some (.int k)) (ho : o.op = .convert src dst x) (hx : ev s x = some (.int k2 a)) : Pr P s h o (.int k c) := fun e he w hw w' => by
  unfold execOp; rw [ho]; simp only [he _ _ hx, convert, Sem.run_bind, run_underlying hs, run_underlying hd, Result.andThen_ok]
  cases td <;> simp [Conv.intToInt, hc]
theorem pr_pick_t {c x y : Operand} (ho : o.op = .pick c x y) (hc : ev s c = some (.bool true)) (hx : ev s x = some v) : Pr P s h o v := fun e he w hw w' => by
  unfold execOp; rw [ho]; simp [he _ _ hc, he _ _ hx, asBool]
theorem pr_pick_f {c x y : Operand} (ho : o.op = .pick c x y) (hc : ev s c = some (.bool false)) (hy : ev s y = some v) : Pr P s h o v := fun e he w hw w' => by
  unfold execOp; rw [ho]; simp [he _ _ hc, he _ _ hy, asBool]
theorem pr_ext {x : Operand} {i : Nat} {vs : List Value} (ho : o.op = .extract x i) (hx : ev s x = some (.tuple vs.toArray)) (hi : vs[i]? = some v) : Pr P s h o v := fun e he w hw w' => by
  unfold execOp; rw [ho]; simp [he _ _ hx, Instr.extract, hi]
theorem pr_len_sl {x : Operand} {t e' : TypeId} {A : Option Addr} {n c : Nat} (ht : P.underlying t = some (.slice e')) (ho : o.op = .call { callee := .builtin .len, args := #[x], argTypes := #[t] }) (hx : ev s x = some (.slice A n c)) : Pr P s h o (.int .i64 (n : Int)) := fun e he w hw w' => by
  unfold execOp; rw [ho]; simp [he _ _ hx, resolve, invoke, builtin, Builtin.len_, run_underlying ht, goInt]
theorem pr_max {x y : Operand} {tx ty : TypeId} {k : IntKind} {a b : Int} (ho : o.op = .call { callee := .builtin .max, args := #[x, y], argTypes := #[tx, ty] }) (hx : ev s x = some (.int k a)) (hy : ev s y = some (.int k b)) : Pr P s h o (.int k (if a < b then b else a)) := fun e he w hw w' => by
  unfold execOp; rw [ho]; simp [he _ _ hx, he _ _ hy, resolve, invoke, builtin, Builtin.max_, Builtin.max2, GT.gt]
theorem pr_min {x y : Operand} {tx ty : TypeId} {k : IntKind} {a b : Int} (ho : o.op = .call { callee := .builtin .min, args := #[x, y], argTypes := #[tx, ty] }) (hx : ev s x = some (.int k a)) (hy : ev s y = some (.int k b)) : Pr P s h o (.int k (if b < a then b else a)) := fun e he w hw w' => by
  unfold execOp; rw [ho]; simp [he _ _ hx, he _ _ hy, resolve, invoke, builtin, Builtin.min_, Builtin.min2]
theorem pr_nilck {x : Operand} {a : Addr} (ho : o.op = .nilCheck x) (hx : ev s x = some (.pointer (some a))) : Pr P s h o (.pointer (some a)) := fun e he w hw w' => by
  unfold execOp; rw [ho]; simp [he _ _ hx]
theorem pr_mkfn {fn : Fn} {fs cs : List Operand} {us vs : List Value} (ho : o.op = .makeFunc fn fs.toArray cs.toArray) (hf : fs.map (ev s) = us.map some) (hc : cs.map (ev s) = vs.map some) : Pr P s h o (.func fn us.toArray vs.toArray) := fun e he w hw w' => by
  have key : ∀ (l : List Operand) (r : List Value), l.map (ev s) = r.map some → l.map e = r := by
    intro l
    induction l with
    | nil => intro r hr; cases r with | nil => rfl | cons _ _ => simp at hr
    | cons a l ih => intro r hr; cases r with
      | nil => simp at hr
      | cons b r => simp only [List.map_cons, List.cons.injEq] at hr ⊢; exact ⟨he _ _ hr.1, ih r hr.2⟩
  unfold execOp; rw [ho]; simp [Instr.makeFunc, key fs us hf, key cs vs hc]
theorem run_sizeOf {t : TypeId} {z : Nat} (h : (P.info? t).map (·.size) = some z) (w : World) : (sizeOf t).run P w = .ok z w := by
  obtain ⟨i, hi, hs⟩ := Option.map_eq_some_iff.1 h
  simp [sizeOf, typeInfo, hi, hs]
theorem pr_ixa {x y : Operand} {t e' : TypeId} {len g m j z m' : Nat} {k : IntKind} (hj : j < len) (hm : m + j * z = m') (ht : P.underlying t = some (.array len e')) (hz : (P.info? e').map (·.size) = some z) (ho : o.op = .indexAddr t x y) (hx : ev s x = some (.pointer (some ⟨g, m, none⟩))) (hy : ev s y = some (.int k (j : Int))) :
    Pr P s h o (.pointer (some ⟨g, m', none⟩)) := fun e he w hw w' => by
  subst hm
  have h2 : (0 : Int) ≤ j ∧ (j : Int) < len := by omega
  have h3 : ¬ len ≤ j := by omega
  unfold execOp; rw [ho]
  simp [he _ _ hx, he _ _ hy, Instr.indexAt, asIntOf, Instr.sureAddr, run_underlying ht, h2, h3, run_sizeOf hz, Addr.add_lit]
theorem pr_ixs {x y : Operand} {t e' : TypeId} {A : Option Addr} {n c j z : Nat} {k : IntKind} (hA : ∀ w, HOK h w → A = none → n = 0) (hj : j < n) (ht : P.underlying t = some (.slice e')) (hz : (P.info? e').map (·.size) = some z) (ho : o.op = .indexAddr t x y) (hx : ev s x = some (.slice A n c)) (hy : ev s y = some (.int k (j : Int))) :
    Pr P s h o (.pointer (some ((adr A).add (j * z)))) := fun e he w hw w' => by
  cases A with
  | none => have := hA w hw rfl; omega
  | some ad =>
    have h2 : (0 : Int) ≤ j ∧ (j : Int) < n := by omega
    have h3 : ¬ n ≤ j := by omega
    unfold execOp; rw [ho]
    simp [he _ _ hx, he _ _ hy, Instr.indexAt, asIntOf, run_underlying ht, h2, h3, run_sizeOf hz, adr]
theorem pr_ixs1 {x y : Operand} {t e' : TypeId} {A : Option Addr} {n c j : Nat} {k : IntKind} (hA : ∀ w, HOK h w → A = none → n = 0) (hj : j < n) (ht : P.underlying t = some (.slice e')) (hz : (P.info? e').map (·.size) = some 1) (ho : o.op = .indexAddr t x y) (hx : ev s x = some (.slice A n c)) (hy : ev s y = some (.int k (j : Int))) :
    Pr P s h o (.pointer (some ((adr A).add j))) := by
  have := pr_ixs (P := P) (s := s) (h := h) (o := o) hA hj ht hz ho hx hy
  rwa [Nat.mul_one] at this
theorem pr_ixb {x y : Operand} {t e' : TypeId} {g m n c j z m' : Nat} {k : IntKind} (hj : j < n) (hm : m + j * z = m') (ht : P.underlying t = some (.slice e')) (hz : (P.info? e').map (·.size) = some z) (ho : o.op = .indexAddr t x y) (hx : ev s x = some (.slice (some ⟨g, m, none⟩) n c)) (hy : ev s y = some (.int k (j : Int))) :
    Pr P s h o (.pointer (some ⟨g, m', none⟩)) := fun e he w hw w' => by
  subst hm
  have h2 : (0 : Int) ≤ j ∧ (j : Int) < n := by omega
  have h3 : ¬ n ≤ j := by omega
  unfold execOp; rw [ho]
  simp [he _ _ hx, he _ _ hy, Instr.indexAt, asIntOf, run_underlying ht, h2, h3, run_sizeOf hz, Addr.add_lit]
def notAgg : TypeDesc → Bool
  | .struct _ => false
  | .array _ _ => false
  | _ => true
theorem run_isAgg {t : TypeId} {td : TypeDesc} (h : P.underlying t = some td) (hn : notAgg td = true) (w : World) : (isAgg t).run P w = .ok false w := by
  unfold isAgg; rw [Sem.run_bind, run_underlying h w]
  cases td <;> first | (cases hn; done) | simp
theorem pr_ix {x y : Operand} {t e' : TypeId} {cs : List Value} {len j : Nat} {k : IntKind} {td : TypeDesc} (hj : j < len) (hv : cs[j]? = some v) (ht : P.underlying t = some (.array len e')) (he' : P.underlying e' = some td) (hn : notAgg td = true) (hz : (P.info? e').map (·.size) = some 1) (ho : o.op = .index t x y) (hx : ev s x = some (.agg cs.toArray)) (hy : ev s y = some (.int k (j : Int))) :
    Pr P s h o v := fun e he w hw w' => by
  have h2 : (0 : Int) ≤ j ∧ (j : Int) < len := by omega
  have h3 : ¬ len ≤ j := by omega
  unfold execOp; rw [ho]
  simp [he _ _ hx, he _ _ hy, Instr.index, asIntOf, run_underlying ht, h2, h3, run_sizeOf hz, part, run_isAgg he' hn, hv]
theorem pr_s2a {x : Operand} {t e' : TypeId} {A : Option Addr} {len n c : Nat} (hl : len ≤ n) (ht : P.underlying t = some (.array len e')) (ho : o.op = .sliceToArrayPointer t x) (hx : ev s x = some (.slice A n c)) : Pr P s h o (.pointer A) := fun e he w hw w' => by
  have h2 : ¬ n < len := by omega
  unfold execOp; rw [ho]
  simp [he _ _ hx, Instr.arrayAt, run_underlying ht, h2]
theorem pr_build {t : TypeId} {ps : List (Nat × Operand)} {qs : List (Nat × Value)} (hr : ∀ w, (Instr.build t qs.toArray).run P w = .ok v w) (hq : ps.map (fun p => (p.1, ev s p.2)) = qs.map (fun p => (p.1, some p.2))) (ho : o.op = .build t ps.toArray) : Pr P s h o v := fun e he w hw w' => by
  have key : ∀ (l : List (Nat × Operand)) (r : List (Nat × Value)), l.map (fun p => (p.1, ev s p.2)) = r.map (fun p => (p.1, some p.2)) → l.map (fun p => (p.1, e p.2)) = r := by
    intro l
    induction l with
    | nil => intro r hr; cases r with | nil => rfl | cons _ _ => simp at hr
    | cons a l ih => intro r hr; cases r with
      | nil => simp at hr
      | cons b r =>
        simp only [List.map_cons, List.cons.injEq, Prod.mk.injEq] at hr ⊢
        exact ⟨Prod.ext hr.1.1 (he _ _ hr.1.2), ih r hr.2⟩
  unfold execOp; rw [ho]
  have : (ps.toArray.map fun (x : Nat × Operand) => (x.1, e x.2)) = qs.toArray := by rw [List.map_toArray, key ps qs hq]
  simp only [this]
  rw [Sem.run_bind, hr w']; rfl
end
section
variable {P : Program} {X : Cx} {s : List (Nat × Value)} {h : List HA} {a : Act} {w : World} {o : Oper} {K K0 : Jd} {v : Value}
def Src (h : List HA) (A : Option Addr) (z n c : Nat) (cs : List Value) : Prop := ∀ w, HOK h w → (HA.rd A z n c cs).ok w
theorem src_rd {A : Option Addr} {z n c : Nat} {cs : List Value} (i : Nat) (hi : h[i]? = some (.rd A z n c cs)) : Src h A z n c cs := fun w hw => hw _ (List.mem_of_getElem? hi)
theorem src_old {A : Option Addr} {z n c : Nat} {cs : List Value} (i : Nat) (hi : h[i]? = some (.old A z n c cs)) : Src h A z n c cs := fun w hw => (hw _ (List.mem_of_getElem? hi) : (HA.old A z n c cs).ok w)
theorem src_none {A : Option Addr} {z n c : Nat} {cs : List Value} (hs : Src h A z n c cs) : ∀ w, HOK h w → A = none → n = 0 := fun w hw e => by have := (hs w hw).1.isn e; have := (hs w hw).1.le; omega
theorem rdv_blk {w : World} {g m z n c : Nat} {e : TypeId} {cs ds : List Value} (hb : w.heap[g]? = some (.cells cs.toArray e (0, 0))) (hl : ds.length = n * z) (hd : (cs.drop m).take (n * z) = ds) (hc : n ≤ c) (hm : c ≤ 9223372036854775807) : RdV w (some ⟨g, m, none⟩) z n c ds := by
  refine ⟨hl, hc, hm, (fun h => by cases h), fun ad e' j v hj => ?_⟩
  cases e'
  rw [Addr.add_lit]
  simp only [World.cell?, hb, Option.isSome_none, Bool.false_eq_true, if_false]
  rw [← hd, List.getElem?_take] at hj
  split at hj
  · rw [List.getElem?_drop] at hj; simpa using hj
  · cases hj
theorem src_blk {g m z n c : Nat} {e : TypeId} {cs ds : List Value} (i : Nat) (hi : h[i]? = some (.blk g e cs)) (hl : ds.length = n * z) (hd : (cs.drop m).take (n * z) = ds) (hc : n ≤ c) (hm : c ≤ 9223372036854775807) : Src h (some ⟨g, m, none⟩) z n c ds := fun w hw => ⟨rdv_blk (hw _ (List.mem_of_getElem? hi)) hl hd hc hm, fun ad e _ => by cases e; exact (Array.getElem?_eq_some_iff.1 (hw _ (List.mem_of_getElem? hi))).1⟩
theorem src_row {A : Option Addr} {z n c : Nat} {e : TypeId} {zs : List Value} (i : Nat) (hi : h[i]? = some (.row (.slice A n c) e z n zs)) : Src h A z n c zs := fun w hw => by
  have hw' : w.ownsRow 0 e z (.slice A n c) n zs := hw _ (List.mem_of_getElem? hi)
  obtain ⟨hl, h1 | ⟨g, cap, cur, hv, -, hb, hn, hm, hs, ht⟩⟩ := hw'
  · obtain ⟨h2, h3⟩ := h1
    cases h2
    exact ⟨⟨hl, Nat.le_refl _, by omega, fun _ => rfl, (fun ad h => by cases h)⟩, (fun ad h => by cases h)⟩
  · cases hv
    have := rdv_blk (w := w) (g := g) (m := 0) (z := z) (n := n) (c := c) (cs := cur.toList) (ds := zs) (by simpa using hb) hl (by simpa using ht) hn (by unfold maxLen at hm; omega)
    exact ⟨this, fun ad e _ => by cases e; exact (Array.getElem?_eq_some_iff.1 hb).1⟩
theorem src_nil (z : Nat) : Src h none z 0 0 [] := fun w hw => ⟨⟨by simp, by omega, by omega, fun _ => rfl, (fun ad h => by cases h)⟩, (fun ad h => by cases h)⟩
theorem ld_src {A : Option Addr} {z n c m : Nat} {cs : List Value} {x : Operand} {ty : TypeId} {td : TypeDesc} (hs : Src h A z n c cs) (hv : cs[m]? = some v) (ht : P.underlying ty = some td) (hn : notAgg td = true) (ho : o.op = .load ty x) (hx : ev s x = some (.pointer (some ((adr A).add m)))) : Ld P s h o v := fun e he w hw => by
  have hr := (hs w hw).1
  cases A with
  | none =>
    have h0 := hr.isn rfl; have h1 := hr.le; have h2 := hr.len
    have : cs = [] := List.eq_nil_of_length_eq_zero (by rw [h2, show n = 0 by omega]; simp)
    subst this; cases hv
  | some ad =>
    have hc := hr.cells ad rfl m v hv
    unfold execOp; rw [ho]
    simp [he _ _ hx, Instr.loadAt, Instr.sureAddr, loadVar, run_isAgg ht hn, adr, load, Sem.run, hc]
theorem ld_blk {g m : Nat} {e' : TypeId} {cs : List Value} {x : Operand} {ty : TypeId} {td : TypeDesc} (i : Nat) (hi : h[i]? = some (.blk g e' cs)) (hv : cs[m]? = some v) (ht : P.underlying ty = some td) (hn : notAgg td = true) (ho : o.op = .load ty x) (hx : ev s x = some (.pointer (some ⟨g, m, none⟩))) : Ld P s h o v := fun e he w hw => by
  have hb : w.heap[g]? = some (.cells cs.toArray e' (0, 0)) := hw _ (List.mem_of_getElem? hi)
  have hc : w.cell? ⟨g, m, none⟩ = some v := by simp [World.cell?, hb, hv]
  unfold execOp; rw [ho]
  simp [he _ _ hx, Instr.loadAt, Instr.sureAddr, loadVar, run_isAgg ht hn, load, Sem.run, hc]
theorem ld_rdb {g m n c : Nat} {cs : List Value} {x : Operand} {ty : TypeId} {td : TypeDesc} (hs : Src h (some ⟨g, 0, none⟩) 1 n c cs) (hv : cs[m]? = some v) (ht : P.underlying ty = some td) (hn : notAgg td = true) (ho : o.op = .load ty x) (hx : ev s x = some (.pointer (some ⟨g, m, none⟩))) : Ld P s h o v := fun e he w hw => by
  have hc := (hs w hw).1.cells _ rfl m v hv
  rw [Addr.add_lit, Nat.zero_add] at hc
  unfold execOp; rw [ho]
  simp [he _ _ hx, Instr.loadAt, Instr.sureAddr, loadVar, run_isAgg ht hn, load, Sem.run, hc]
def isAggT : TypeDesc → Bool
  | .struct _ => true
  | .array _ _ => true
  | _ => false
theorem run_isAgg_t {t : TypeId} {td : TypeDesc} (h : P.underlying t = some td) (hn : isAggT td = true) (w : World) : (isAgg t).run P w = .ok true w := by
  unfold isAgg; rw [Sem.run_bind, run_underlying h w]
  cases td <;> first | (cases hn; done) | simp
theorem run_loadAgg {ty : TypeId} {td : TypeDesc} {ad : Addr} {ds : List Value} {w : World} (hc : ∀ j v, ds[j]? = some v → w.cell? (ad.add j) = some v) (ht : P.underlying ty = some td) (hn : isAggT td = true) (hz : (P.info? ty).map (·.size) = some ds.length) : (loadVar ty ad).run P w = .ok (.agg ds.toArray) w := by
  simp only [loadVar, Sem.run_bind, run_isAgg_t ht hn, Result.andThen_ok, if_true, run_sizeOf hz, run_loadCells_list (P := P) w ad ds hc]
  rfl
theorem ld_agg {g m : Nat} {e' : TypeId} {cs ds : List Value} {x : Operand} {ty : TypeId} {td : TypeDesc} (i : Nat) (hi : h[i]? = some (.blk g e' cs)) (hd : (cs.drop m).take ds.length = ds) (ht : P.underlying ty = some td) (hn : isAggT td = true) (hz : (P.info? ty).map (·.size) = some ds.length) (ho : o.op = .load ty x) (hx : ev s x = some (.pointer (some ⟨g, m, none⟩))) : Ld P s h o (.agg ds.toArray) := fun e he w hw => by
  have hb : w.heap[g]? = some (.cells cs.toArray e' (0, 0)) := hw _ (List.mem_of_getElem? hi)
  have hr := rdv_blk (w := w) (g := g) (m := m) (z := 1) (n := ds.length) (c := ds.length) (ds := ds) hb (by simp) (by simpa using hd) (Nat.le_refl _)
  unfold execOp; rw [ho]
  simp only [he _ _ hx, Instr.loadAt, Instr.sureAddr, Sem.run_bind, Sem.run_pure, Result.andThen_ok]
  rw [run_loadAgg (fun j v hj => ?_) ht hn hz]
  · rfl
  · rw [Addr.add_lit]
    simp only [World.cell?, hb, Option.isSome_none, Bool.false_eq_true, if_false]
    rw [← hd, List.getElem?_take] at hj
    split at hj
    · rw [List.getElem?_drop] at hj; simpa using hj
    · cases hj
theorem ld_aggs {A : Option Addr} {z n c : Nat} {cs ds : List Value} {x : Operand} {ty : TypeId} {td : TypeDesc} (hs : Src h A z n c cs) (hd : cs.take ds.length = ds) (h0 : 0 < ds.length) (ht : P.underlying ty = some td) (hn : isAggT td = true) (hz : (P.info? ty).map (·.size) = some ds.length) (ho : o.op = .load ty x) (hx : ev s x = some (.pointer A)) : Ld P s h o (.agg ds.toArray) := fun e he w hw => by
  have hr := (hs w hw).1
  cases A with
  | none =>
    have h1 := hr.isn rfl; have h2 := hr.le; have h3 := hr.len
    have : cs = [] := List.eq_nil_of_length_eq_zero (by rw [h3, show n = 0 by omega]; simp)
    subst this; rw [List.take_nil] at hd; subst hd; simp at h0
  | some ad =>
    unfold execOp; rw [ho]
    simp only [he _ _ hx, Instr.loadAt, Instr.sureAddr, Sem.run_bind, Sem.run_pure, Result.andThen_ok]
    rw [run_loadAgg (fun j v hj => hr.cells ad rfl j v ?_) ht hn hz]
    · rfl
    · rw [← hd, List.getElem?_take] at hj
      split at hj
      · exact hj
      · cases hj
end
end Go.Proofs.YtlplpmkdebemnaaGreat.Fw
namespace Go.Proofs.YtlplpmkdebemnaaGreat.Fw
open Go.RowKit Bv
section
variable {P : Program} {X : Cx} {s : List (Nat × Value)} {h : List HA} {a : Act} {w : World} {o : Oper} {K K0 : Jd} {v : Value}
theorem op_val {w' : World} {u : Value} (hr : (execOp a.eval o).run P w = .ok (.value u) w') (hk : K (a.put o.dst u) w') : Op P o K K0 a w := by
  unfold Op Oper.wp; rw [hr]; exact hk
theorem op_skp {w' : World} (hr : (execOp a.eval o).run P w = .ok .skip w') (hd : o.dst = none) (hk : K a w') : Op P o K K0 a w := by
  unfold Op Oper.wp; rw [hr, Oper.upon_skip, hd]; exact hk
theorem St.swapv (st : St X s h a w) {w' : World} (out keep hs : List HA) (hp : h.Perm (out ++ keep)) {d : Nat} (hN : Nat.blt d X.N = true) (u : Value)
    (hk : Keep (out.flatMap HA.ids) w w') (hok : ∀ x ∈ hs, x.ok w') (hfr : ∀ x ∈ hs, ∀ k ∈ x.frs, k ∈ out.flatMap HA.ids ∨ w.heap.size ≤ k) (hnd : (hs.flatMap HA.ids).Nodup) (hrd : ∀ x ∈ hs, ∀ r ∈ x.rids, r ∈ x.frs ∧ ∀ y ∈ hs, r ∉ y.ids) (hos : ∀ x ∈ hs, x.os = [] ∧ x.bs = none := by intro x hx; rw [List.mem_singleton] at hx; subst hx; exact ⟨rfl, rfl⟩) : St X ((d, u) :: s) (hs ++ keep) (a.put (some d) u) w' :=
  have hp1 := st.put (Nat.le_of_ble_eq_true hN) u
  hp1.swap out keep hs hp hp1.sz hp1.df hp1.sl hk hok hfr hnd hrd hos
theorem keep_alloc (w : World) (ob : Obj) : Keep [] w (w.alloc ob) := ⟨⟨rfl, rfl, rfl, by simp⟩, fun k hk _ => Below.heap_alloc w ob k hk⟩
theorem St.newblk (st : St X s h a w) {d : Nat} (hN : Nat.blt d X.N = true) (e : TypeId) (cs : List Value) (u : Value) : St X ((d, u) :: s) (.blk w.heap.size e cs :: h) (a.put (some d) u) (w.alloc (.cells cs.toArray e (0, 0))) := by
  refine st.swapv [] h [.blk w.heap.size e cs] (List.Perm.refl _) hN u (keep_alloc w _) ?_ ?_ ?_ ?_
  · intro x hx; rw [List.mem_singleton] at hx; subst hx; exact heap_alloc_new w _
  · intro x hx k hk; rw [List.mem_singleton] at hx; subst hx; simp [HA.frs] at hk; subst hk; exact .inr (Nat.le_refl _)
  · simp [HA.ids]
  · intro x hx r hr; rw [List.mem_singleton] at hx; subst hx; cases hr
theorem op_alloc {d : Nat} {t : TypeId} {z : Value} {zs : List Value} (hz : (P.info? t).bind (·.zero) = some z) (hzs : z.cells.toList = zs) (ho : o.op = .alloc t) (hd : o.dst = some d) (hN : Nat.blt d X.N = true)
    (hh : ∀ g, Tr X ((d, .pointer (some ⟨g, 0, none⟩)) :: s) (.blk g t zs :: h) K) : Tr X s h (Op P o K K0) := fun a w st => by
  obtain ⟨i, hi, hz'⟩ := Option.bind_eq_some_iff.1 hz
  have hr : (execOp a.eval o).run P w = .ok (.value (.pointer (some ⟨w.heap.size, 0, none⟩))) (w.alloc (.cells zs.toArray t (0, 0))) := by
    subst hzs
    unfold execOp; rw [ho]
    simp [Instr.alloc, zeroValue, typeInfo, hi, hz', newVar, newRow]
  exact op_val hr (by rw [hd]; exact hh _ _ _ (st.newblk hN t zs _))
theorem op_box {d : Nat} {t : TypeId} {x : Operand} {zs : List Value} (hzs : v.cells.toList = zs) (ho : o.op = .box t x) (hx : ev s x = some v) (hd : o.dst = some d) (hN : Nat.blt d X.N = true)
    (hh : ∀ g, Tr X ((d, .pointer (some ⟨g, 0, none⟩)) :: s) (.blk g t zs :: h) K) : Tr X s h (Op P o K K0) := fun a w st => by
  have hr : (execOp a.eval o).run P w = .ok (.value (.pointer (some ⟨w.heap.size, 0, none⟩))) (w.alloc (.cells zs.toArray t (0, 0))) := by
    subst hzs
    unfold execOp; rw [ho]
    simp [Instr.box, newVar, newRow, st.ag x v hx]
  exact op_val hr (by rw [hd]; exact hh _ _ _ (st.newblk hN t zs _))
theorem op_bslice {d : Nat} {t e : TypeId} {len : Nat} {ps : List (Nat × Operand)} {qs : List (Nat × Value)} {zs : List Value} (hr : ∀ w, (Instr.buildSlice t len qs.toArray).run P w = .ok (.slice (some ⟨w.heap.size, 0, none⟩) len len) (w.alloc (.cells zs.toArray e (0, 0)))) (hq : ps.map (fun p => (p.1, ev s p.2)) = qs.map (fun p => (p.1, some p.2))) (ho : o.op = .buildSlice t len ps.toArray) (hd : o.dst = some d) (hN : Nat.blt d X.N = true)
    (hh : ∀ g, Tr X ((d, .slice (some ⟨g, 0, none⟩) len len) :: s) (.blk g e zs :: h) K) : Tr X s h (Op P o K K0) := fun a w st => by
  have key : ∀ (l : List (Nat × Operand)) (r : List (Nat × Value)), l.map (fun p => (p.1, ev s p.2)) = r.map (fun p => (p.1, some p.2)) → l.map (fun p => (p.1, a.eval p.2)) = r := by
    intro l
    induction l with
    | nil => intro r hr; cases r with | nil => rfl | cons _ _ => simp at hr
    | cons b l ih => intro r hr; cases r with
      | nil => simp at hr
      | cons c r =>
        simp only [List.map_cons, List.cons.injEq, Prod.mk.injEq] at hr ⊢
        exact ⟨Prod.ext hr.1.1 (st.ag _ _ hr.1.2), ih r hr.2⟩
  have hr' : (execOp a.eval o).run P w = .ok (.value (.slice (some ⟨w.heap.size, 0, none⟩) len len)) (w.alloc (.cells zs.toArray e (0, 0))) := by
    unfold execOp; rw [ho]
    have : (ps.toArray.map fun (x : Nat × Operand) => (x.1, a.eval x.2)) = qs.toArray := by rw [List.map_toArray, key ps qs hq]
    simp only [this]
    rw [Sem.run_bind, hr w]; rfl
  exact op_val hr' (by rw [hd]; exact hh _ _ _ (st.newblk hN e zs _))
theorem madeCells_list (z : Value) (n : Nat) (hz : z.cells = #[z]) : (madeCells z.cells n).toList = List.replicate n z := by
  rw [hz]
  apply List.ext_getElem
  · simp [madeCells]
  · intro i h1 h2; simp [madeCells, Nat.mod_one]
theorem op_make {d : Nat} {t e : TypeId} {x y : Operand} {z : Value} {bytes n c : Nat} (ht : P.underlying t = some (.slice e)) (hi : (P.info? e).map (fun i => (i.zero, i.size, i.bytes)) = some (some z, 1, bytes)) (hz : z.cells = #[z]) (hnc : n ≤ c) (hb : bytes * c ≤ 281474976710656) (hc : c ≤ 9223372036854775807)
    (ho : o.op = .makeSlice t x y) (hx : ev s x = some (.int .i64 (n : Int))) (hy : ev s y = some (.int .i64 (c : Int))) (hd : o.dst = some d) (hN : Nat.blt d X.N = true)
    (hh : ∀ g, Tr X ((d, .slice (some ⟨g, 0, none⟩) n c) :: s) (.blk g e (List.replicate c z) :: h) K) : Tr X s h (Op P o K K0) := fun a w st => by
  obtain ⟨i, hi1, hi2⟩ := Option.map_eq_some_iff.1 hi
  simp only [Prod.mk.injEq] at hi2
  obtain ⟨h1, h2, h3⟩ := hi2
  have hb' : (i.bytes : Int) * (c : Int) ≤ 281474976710656 := by rw [h3]; omega
  have hr := run_make (P := P) w t e i z ht hi1 h1 .i64 .i64 (n : Int) (c : Int) oM oM hb' oM
  have hcells : madeCells z.cells (((c : Int)).toNat * i.size) = (List.replicate c z).toArray := by
    apply Array.toList_inj.1
    rw [madeCells_list z _ hz, h2, Nat.mul_one, Int.toNat_natCast]
  rw [hcells] at hr
  have hr' : (execOp a.eval o).run P w = .ok (.value (.slice (some ⟨w.heap.size, 0, none⟩) n c)) (w.alloc (.cells (List.replicate c z).toArray e (0, 0))) := by
    unfold execOp; rw [ho]
    simp only [st.ag _ _ hx, st.ag _ _ hy]
    rw [Sem.run_bind, hr]; rfl
  exact op_val hr' (by rw [hd]; exact hh _ _ _ (st.newblk hN e _ _))
theorem op_store {ty e : TypeId} {x y : Operand} {g m : Nat} {cs vs cs' : List Value} (i : Nat) (hi : h[i]? = some (.blk g e cs)) (hv : v.cells.toList = vs) (hz : (P.info? ty).map (·.size) = some vs.length) (h1 : ∀ u ∈ vs, u.oneCell' = true) (hm : m + vs.length ≤ cs.length) (hc : cs.take m ++ vs ++ cs.drop (m + vs.length) = cs')
    (ho : o.op = .store ty x y) (hx : ev s x = some (.pointer (some ⟨g, m, none⟩))) (hy : ev s y = some v) (hd : o.dst = none) (hh : Tr X s (.blk g e cs' :: h.eraseIdx i) K) : Tr X s h (Op P o K K0) := fun a w st => by
  have hb : w.heap[g]? = some (.cells cs.toArray e (0, 0)) := st.ok _ (List.mem_of_getElem? hi)
  have hst := run_storeCells_at (P := P) g m e vs 0 cs.toArray w hb (by simpa using hm) h1
  simp only [Nat.add_zero] at hst
  have hr : (execOp a.eval o).run P w = .ok .skip (w.setRow g cs'.toArray) := by
    subst hv
    unfold execOp; rw [ho]
    simp only [st.ag _ _ hx, st.ag _ _ hy, Instr.storeAt, Instr.sureAddr, storeVar, Sem.run_bind, Sem.run_pure, Result.andThen_ok, run_sizeOf hz]
    have : ¬ v.cells.size ≠ v.cells.toList.length := by simp
    rw [if_neg this, hst, ← hc]
    simp
  refine op_skp hr hd (hh a _ ?_)
  refine st.swap [.blk g e cs] (h.eraseIdx i) [.blk g e cs'] (perm_erase h i _ hi) st.sz st.df st.sl ⟨⟨rfl, rfl, rfl, by simp⟩, fun k _ hk => setRow_other w g k _ (fun e => hk (by simp [HA.ids, e]))⟩ ?_ ?_ ?_ ?_
  · intro x hx; rw [List.mem_singleton] at hx; subst hx; exact setRow_heap w g _ _ e _ hb
  · intro x hx k hk; rw [List.mem_singleton] at hx; subst hx; exact .inl (by simpa [HA.ids, HA.frs] using hk)
  · simp [HA.ids]
  · intro x hx r hr; rw [List.mem_singleton] at hx; subst hx; cases hr
theorem splice_set {α : Type} {xs : List α} {m : Nat} {v : α} (hm : m < xs.length) : xs.take m ++ [v] ++ xs.drop (m + [v].length) = xs.set m v := by
  rw [List.set_eq_take_append_cons_drop, if_pos hm]; simp
theorem splice_map {β : Type} {f : β → Value} {xs : List β} {m : Nat} {v : β} (hm : m < xs.length) : (xs.map f).take m ++ [f v] ++ (xs.map f).drop (m + [f v].length) = (xs.set m v).map f := by
  rw [splice_set (by simpa using hm), List.map_set]
theorem splice_all {cs vs : List Value} (hl : cs.length = vs.length) : cs.take 0 ++ vs ++ cs.drop (0 + vs.length) = vs := by simp [hl]
theorem all8_one (xs : List (BitVec 8)) : ∀ u ∈ xs.map b8, u.oneCell' = true := by intro u hu; obtain ⟨x, _, rfl⟩ := List.mem_map.1 hu; rfl
theorem all32_one (xs : List (BitVec 32)) : ∀ u ∈ xs.map b32, u.oneCell' = true := by intro u hu; obtain ⟨x, _, rfl⟩ := List.mem_map.1 hu; rfl
theorem one_one {v : Value} (hv : v.oneCell' = true) : ∀ u ∈ [v], u.oneCell' = true := by intro u hu; rw [List.mem_singleton] at hu; exact hu ▸ hv
theorem T_nilrow {J : Jd} (e : TypeId) (z : Nat) (hh : Tr X s (.row (.slice none 0 0) e z 0 [] :: h) J) : Tr X s h J := fun a w st => by
  refine hh a w (st.swap [] h [_] (List.Perm.refl _) st.sz st.df st.sl (Keep.refl _ _) ?_ ?_ ?_ ?_)
  · intro x hx; rw [List.mem_singleton] at hx; subst hx; exact World.ownsRow_nil w 0 e z
  · intro x hx k hk; rw [List.mem_singleton] at hx; subst hx; simp [HA.frs, Value.ownBlock] at hk
  · simp [HA.ids, Value.ownBlock]
  · intro x hx r hr; rw [List.mem_singleton] at hx; subst hx; cases hr
theorem T_rowb {J : Jd} (i : Nat) {g : Nat} {e : TypeId} {cs zs : List Value} (z n c : Nat) (hi : h[i]? = some (.blk g e cs)) (hnc : n ≤ c) (hc : c ≤ 9223372036854775807) (hl : cs.length = c * z) (hz : cs.take (n * z) = zs) (hh : Tr X s (.row (.slice (some ⟨g, 0, none⟩) n c) e z n zs :: h.eraseIdx i) J) : Tr X s h J := fun a w st => by
  have hb : w.heap[g]? = some (.cells cs.toArray e (0, 0)) := st.ok _ (List.mem_of_getElem? hi)
  refine hh a w (st.swap [.blk g e cs] (h.eraseIdx i) [_] (perm_erase h i _ hi) st.sz st.df st.sl (Keep.refl _ _) ?_ ?_ ?_ ?_)
  · intro x hx; rw [List.mem_singleton] at hx; subst hx
    refine ⟨?_, .inr ⟨g, c, cs.toArray, rfl, Nat.zero_le _, hb, hnc, by unfold maxLen; omega, by simpa using hl, by simpa using hz⟩⟩
    rw [← hz, List.length_take, hl]
    have : n * z ≤ c * z := Nat.mul_le_mul_right z hnc
    omega
  · intro x hx k hk; rw [List.mem_singleton] at hx; subst hx; exact .inl (by simpa [HA.ids, HA.frs, Value.ownBlock] using hk)
  · simp [HA.ids, Value.ownBlock]
  · intro x hx r hr; rw [List.mem_singleton] at hx; subst hx; cases hr
theorem T_old {J : Jd} (i : Nat) {A : Option Addr} {e : TypeId} {z n c : Nat} {zs : List Value} (hi : h[i]? = some (.row (.slice A n c) e z n zs)) (hh : Tr X s (.old A z n c zs :: h.eraseIdx i) J) : Tr X s h J := fun a w st => by
  have hx := st.ok _ (List.mem_of_getElem? hi)
  have hr := (src_row i hi w st.ok).1
  have hids : ∀ k, k ∈ (HA.old A z n c zs).rids → k ∈ (HA.row (.slice A n c) e z n zs).ids := by
    intro k hk
    obtain ⟨_, ad, rfl, h2⟩ := mem_rid.1 hk
    simp [HA.ids, Value.ownBlock, h2]
  refine hh a w (st.swap [.row (.slice A n c) e z n zs] (h.eraseIdx i) [_] (perm_erase h i _ hi) st.sz st.df st.sl (Keep.refl _ _) ?_ ?_ ?_ ?_)
  · intro x hx'; rw [List.mem_singleton] at hx'; subst hx'
    refine ⟨hr, fun ad ea _ => ?_⟩
    subst ea
    exact HA.lt hx _ (by simp [HA.ids, Value.ownBlock])
  · intro x hx' k hk; rw [List.mem_singleton] at hx'; subst hx'; exact .inl (by simpa using hids k hk)
  · simp [HA.ids]
  · intro x hx' r hr'; rw [List.mem_singleton] at hx'; subst hx'; exact ⟨hr', by intro y hy; rw [List.mem_singleton] at hy; subst hy; simp [HA.ids]⟩
theorem T_oldb {J : Jd} (i : Nat) {g : Nat} {e : TypeId} {cs zs : List Value} (m z n c : Nat) (hi : h[i]? = some (.blk g e cs)) (hl : zs.length = n * z) (hz : (cs.drop m).take (n * z) = zs) (hnc : n ≤ c) (hc : c ≤ 9223372036854775807) (hh : Tr X s (.old (some ⟨g, m, none⟩) z n c zs :: h.eraseIdx i) J) : Tr X s h J := fun a w st => by
  have hx := st.ok _ (List.mem_of_getElem? hi)
  have hr := (src_blk i hi hl hz hnc hc w st.ok).1
  refine hh a w (st.swap [.blk g e cs] (h.eraseIdx i) [_] (perm_erase h i _ hi) st.sz st.df st.sl (Keep.refl _ _) ?_ ?_ ?_ ?_)
  · intro x hx'; rw [List.mem_singleton] at hx'; subst hx'
    refine ⟨hr, fun ad ea _ => ?_⟩
    cases ea
    exact HA.lt hx _ (by simp [HA.ids])
  · intro x hx' k hk; rw [List.mem_singleton] at hx'; subst hx'; exact .inl (by obtain ⟨_, ad, e1, h2⟩ := mem_rid.1 hk; cases e1; simp [HA.ids, ← h2])
  · simp [HA.ids]
  · intro x hx' r hr'; rw [List.mem_singleton] at hx'; subst hx'; exact ⟨hr', by intro y hy; rw [List.mem_singleton] at hy; subst hy; simp [HA.ids]⟩
theorem run_app {t ty e : TypeId} {i : TypeInfo} {z : Value} {size bytes : Nat} (w : World) (ht : P.underlying t = some (.slice e)) (hi : P.info? e = some i) (hz : i.zero = some z)
    (hsize : i.size = size) (hby : i.bytes = bytes) (hzs : z.cells.size = size) (hsz : 0 < size) {v : Value} {n : Nat} {xs : List Value} (hown : w.ownsRow 0 e size v n xs) {A : Option Addr} {m c : Nat} {news : List Value} (hrd : RdV w A size m c news) (h1 : ∀ u ∈ news, u.oneCell' = true)
    (h63 : n + m ≤ 9223372036854775807) (hbytes : (n + m) * bytes ≤ 140737488355328) :
    ∃ A' c' w', (Builtin.append_ #[t, t] ty #[v, .slice A m c]).run P w = .ok (.slice A' (n + m) c') w' ∧ w'.ownsRow 0 e size (.slice A' (n + m) c') (n + m) (xs ++ news) ∧ w.grownBy w' v.ownBlock ∧ (∀ k, (Value.slice A' (n + m) c').ownBlock = some k → v.ownBlock = some k ∨ w.heap.size ≤ k) := by
  have shape : ∀ {v' : Value} {w' : World} {k : Nat} {ys : List Value}, w'.ownsRow 0 e size v' k ys → ∃ A' c', v' = .slice A' k c' := by
    intro v' w' k ys ho
    rcases ho.2 with ⟨rfl, rfl⟩ | ⟨g, cap, cur, rfl, _⟩
    · exact ⟨none, 0, rfl⟩
    · exact ⟨_, _, rfl⟩
  cases A with
  | none =>
    have h0 := hrd.isn rfl; have h2 := hrd.le; have h3 := hrd.len
    obtain rfl : m = 0 := by omega
    obtain rfl : c = 0 := h0
    obtain rfl : news = [] := List.eq_nil_of_length_eq_zero (by simpa using h3)
    obtain ⟨A', c', rfl⟩ := shape hown
    refine ⟨A', c', w, ?_, by simpa using hown, World.grownBy.refl _ _, fun k hk => .inl hk⟩
    exact run_append_owned_none (P := P) (w := w) 0 t ty e i size ht hi _ n xs hown
  | some ad =>
    have hm63 : n + m ≤ maxLen := by unfold maxLen; omega
    obtain ⟨v', w', hr, ho', hg', -⟩ := run_append_own (P := P) w 0 t ty e i z size bytes ht hi hz hsize hby hzs hsz v n xs hown ad m c news hrd.len (fun j u hu => hrd.cells ad rfl j u hu) h1 hm63 hbytes (Nat.zero_le _)
    obtain ⟨A', c', rfl⟩ := shape ho'
    refine ⟨A', c', w', hr, ho', hg', ?_⟩
    intro k hk
    subst hsize; subst hby
    rcases hown.2 with ⟨rfl, rfl⟩ | ⟨g, cap, cur, rfl, -, hgb, hnc, hcm, hcs, htake⟩
    · by_cases hm0 : m = 0
      · subst hm0
        rcases ho'.2 with ⟨e1, -⟩ | ⟨g', cap', cur', e1, -, -, -⟩
        · rw [e1] at hk; cases hk
        · have h9 : (Builtin.append_ #[t, t] ty #[.slice none 0 0, .slice (some ad) 0 c]).run P w = .ok (.slice none 0 0) w := by
            simp [Builtin.append_, run_underlying ht, sizeOf, typeInfo, hi, Builtin.lenOf, Builtin.firstCells, loadCells, loadCellsFrom]
          rw [h9] at hr
          injection hr with hr1 hr2
          cases hr1
          cases hk
      · have h9 := run_append_nil (P := P) w t ty e i z ht hi hz ad m c news hrd.len (fun j u hu => hrd.cells ad rfl j u hu) oM oM (by simp only [Nat.zero_add] at hbytes; omega)
        rw [hr] at h9
        injection h9 with h10 h11
        rw [h10] at hk
        cases hk
        exact .inr (Nat.le_refl _)
    · by_cases hroom : n + m ≤ cap
      · have h9 := run_append_room (P := P) w t ty e i ht hi g n cap cur hgb ad m c news hrd.len (fun j u hu => hrd.cells ad rfl j u hu) h1 hroom (by rw [hrd.len, hcs, ← Nat.add_mul]; exact Nat.mul_le_mul_right _ hroom)
        rw [hr] at h9
        injection h9 with h10 h11
        rw [h10] at hk
        exact .inl hk
      · have h9 := run_append_grow (P := P) w t ty e i z ht hi hz ⟨g, 0, none⟩ n cap xs hown.1 (hown.cells (g := g) rfl) ad m c news hrd.len (fun j u hu => hrd.cells ad rfl j u hu) oM oM (growslice_fits oM hbytes)
        rw [hr] at h9
        injection h9 with h10 h11
        rw [h10] at hk
        cases hk
        exact .inr (Nat.le_refl _)
theorem op_append {d : Nat} {t e : TypeId} {x y : Operand} {z : Value} {size bytes n m c : Nat} {A : Option Addr} {xs news : List Value} (i : Nat) (hi : h[i]? = some (.row v e size n xs)) (ht : P.underlying t = some (.slice e)) (hin : (P.info? e).map (fun i => (i.zero, i.size, i.bytes)) = some (some z, size, bytes)) (hzs : z.cells.size = size) (hsz : 0 < size)
    (hs : Src h A size m c news) (h1 : ∀ u ∈ news, u.oneCell' = true) (h63 : n + m ≤ 9223372036854775807) (hbytes : (n + m) * bytes ≤ 140737488355328)
    (ho : o.op = .call { callee := .builtin .append, args := #[x, y], argTypes := #[t, t] }) (hx : ev s x = some v) (hy : ev s y = some (.slice A m c)) (hd : o.dst = some d) (hN : Nat.blt d X.N = true)
    (hh : ∀ A' c', Tr X ((d, .slice A' (n + m) c') :: s) (.row (.slice A' (n + m) c') e size (n + m) (xs ++ news) :: h.eraseIdx i) K) : Tr X s h (Op P o K K0) := fun a w st => by
  obtain ⟨ti, hi1, hi2⟩ := Option.map_eq_some_iff.1 hin
  simp only [Prod.mk.injEq] at hi2
  obtain ⟨hz, hsize, hby⟩ := hi2
  have hown : w.ownsRow 0 e size v n xs := st.ok _ (List.mem_of_getElem? hi)
  obtain ⟨A', c', w', hr, ho', hg', hb'⟩ := run_app (P := P) (ty := o.type) w ht hi1 hz hsize hby hzs hsz hown (hs w st.ok).1 h1 h63 hbytes
  have hr' : (execOp a.eval o).run P w = .ok (.value (.slice A' (n + m) c')) w' := by
    unfold execOp
    rw [ho]
    simp [resolve, invoke, builtin, st.ag _ _ hx, st.ag _ _ hy, hr]
  refine op_val hr' ?_
  rw [hd]
  refine hh A' c' _ _ (st.swapv [.row v e size n xs] (h.eraseIdx i) [.row (.slice A' (n + m) c') e size (n + m) (xs ++ news)] (perm_erase h i _ hi) hN _ ?_ ?_ ?_ ?_ ?_)
  · have := Keep.of_grown hg'; simpa [HA.ids] using this
  · intro x hx; rw [List.mem_singleton] at hx; subst hx; exact ho'
  · intro x hx k hk; rw [List.mem_singleton] at hx; subst hx
    have := hb' k (by simpa [HA.frs] using hk)
    exact this.imp (fun h => by simp [HA.ids, h]) id
  · simp only [List.flatMap_cons, List.flatMap_nil, List.append_nil, HA.ids]
    cases (Value.slice A' (n + m) c').ownBlock <;> simp
  · intro x hx r hr; rw [List.mem_singleton] at hx; subst hx; cases hr
theorem T_part {J : Jd} (i : Nat) {A : Option Addr} {z n c : Nat} {cs : List Value} (hi : h[i]? = some (.rd A z n c cs)) {B : Option Addr} {n' c' : Nat} {cs' : List Value} (hB : ∀ w, HOK h w → RdV w B z n' c' cs') (hb : ∀ ad, B = some ad → ∃ ad', A = some ad' ∧ ad.block = ad'.block) (hcc : c' ≤ c) (hh : Tr X s (.rd B z n' c' cs' :: h) J) : Tr X s h J := fun a w st => by
  have hm := List.mem_of_getElem? hi
  have hx := st.ok _ hm
  have hr : ∀ r ∈ (HA.rd B z n' c' cs').rids, r ∈ (HA.rd A z n c cs).rids := by
    intro r hr
    obtain ⟨hc, ad, h1, h2⟩ := mem_rid.1 hr
    obtain ⟨ad', h3, h4⟩ := hb ad h1
    exact mem_rid.2 ⟨by omega, ad', h3, by rw [← h4, h2]⟩
  refine hh a w ⟨st.sz, st.df, st.sl, st.kp, ?_, st.ll, ?_, ?_, ?_, ?_, ?_, ⟨st.rk.1, ?_⟩⟩
  · intro x hx'
    rcases List.mem_cons.1 hx' with rfl | hx'
    · refine ⟨hB w st.ok, fun ad e hc => ?_⟩
      obtain ⟨ad', h3, h4⟩ := hb ad e
      rw [h4]; exact hx.2 ad' h3 oM
    · exact st.ok x hx'
  · intro x hx' k hk
    rcases List.mem_cons.1 hx' with rfl | hx'
    · cases hk
    · exact st.fr x hx' k hk
  · simpa [HA.ids] using st.nd
  · intro x hx' y hy r hrr
    rcases List.mem_cons.1 hy with rfl | hy
    · simp [HA.ids]
    · rcases List.mem_cons.1 hx' with rfl | hx'
      · exact st.dj _ hm y hy r (hr r hrr)
      · exact st.dj x hx' y hy r hrr
  · intro x hx' o ho y hy hyb hor
    rcases List.mem_cons.1 hx' with rfl | hx'
    · cases ho
    · rcases List.mem_cons.1 hy with rfl | hy
      · exact st.iv x hx' o ho _ hm rfl (hr o hor)
      · exact st.iv x hx' o ho y hy hyb hor
  · intro x hx' B hB
    rcases List.mem_cons.1 hx' with rfl | hx'
    · cases hB
    · exact st.ib x hx' B hB
  · intro x hx' r hrr
    rcases List.mem_cons.1 hx' with rfl | hx'
    · exact st.rk.2 _ hm r (hr r hrr)
    · exact st.rk.2 x hx' r hrr
theorem rdv_part {w : World} {A : Option Addr} {z n c lo hi : Nat} {cs : List Value} (hr : RdV w A z n c cs) (h1 : lo ≤ hi) (h2 : hi ≤ n) : RdV w (if c = lo then A else A.map (·.add (lo * z))) z (hi - lo) (c - lo) ((cs.drop (lo * z)).take ((hi - lo) * z)) := by
  have hl := hr.len; have hle := hr.le; have hm := hr.most
  have e1 : lo * z + (hi - lo) * z = hi * z := by rw [← Nat.add_mul]; congr 1; omega
  have e2 : hi * z ≤ n * z := Nat.mul_le_mul_right z h2
  refine ⟨?_, by omega, by omega, ?_, ?_⟩
  · simp only [List.length_take, List.length_drop, hl]; omega
  · intro e
    by_cases hc : c = lo
    · omega
    · rw [if_neg hc] at e
      have : A = none := by simpa using e
      have := hr.isn this; omega
  · intro ad e j v hj
    rw [List.getElem?_take] at hj
    split at hj
    case isFalse => cases hj
    case isTrue hjl =>
      rw [List.getElem?_drop] at hj
      by_cases hc : c = lo
      · have : hi - lo = 0 := by omega
        rw [this] at hjl; simp at hjl
      · rw [if_neg hc] at e
        obtain ⟨ad', h3, h4⟩ := Option.map_eq_some_iff.1 e
        have := hr.cells ad' h3 (lo * z + j) v hj
        rw [← h4, Addr.add_add]
        exact this
theorem op_slice_rd {d : Nat} {t e : TypeId} {x : Operand} {lo hi : Option Operand} {A : Option Addr} {z n n0 c l u : Nat} {cs : List Value} (i : Nat) (hi' : h[i]? = some (.rd A z n c cs)) (hlu : l ≤ u) (hun : u ≤ n) (ht : P.underlying t = some (.slice e)) (hz : (P.info? e).map (·.size) = some z)
    (ho : o.op = .slice t x lo hi none) (hx : ev s x = some (.slice A n0 c)) (hl : (match lo with | none => l = 0 | some y => ∃ k, ev s y = some (.int k (l : Int)))) (hu : (match hi with | none => u = n0 | some y => ∃ k, ev s y = some (.int k (u : Int)))) (hd : o.dst = some d) (hN : Nat.blt d X.N = true)
    (hh : ∀ A', Tr X ((d, .slice A' (u - l) (c - l)) :: s) (.rd A' z (u - l) (c - l) ((cs.drop (l * z)).take ((u - l) * z)) :: h) K) : Tr X s h (Op P o K K0) := fun a w st => by
  have hrd := (src_rd i hi' w st.ok).1
  have hr : (execOp a.eval o).run P w = .ok (.value (.slice (if c = l then A else A.map (·.add (l * z))) (u - l) (c - l))) w := by
    have hle := hrd.le
    have g1 : (0 : Int) ≤ (u : Int) ∧ (u : Int) ≤ c := by omega
    have g2 : (0 : Int) ≤ (l : Int) ∧ (l : Int) ≤ u := by omega
    unfold execOp; rw [ho]
    cases lo with
    | none =>
      obtain rfl : l = 0 := hl
      cases hi with
      | none =>
        obtain rfl : u = n0 := hu
        simp [st.ag _ _ hx, Instr.sliceAt, run_underlying ht, Instr.slice, Instr.sliceBounds, run_sizeOf hz]
      | some y =>
        obtain ⟨k, hk⟩ := hu
        have g3 : ¬ c < u := by omega
        have g4 : u ≤ c := by omega
        simp [st.ag _ _ hx, st.ag _ _ hk, Instr.sliceAt, run_underlying ht, Instr.slice, Instr.sliceBounds, Instr.sliceBound, asIntOf, g1, g3, g4, run_sizeOf hz]
    | some y =>
      obtain ⟨k, hk⟩ := hl
      cases hi with
      | none =>
        obtain rfl : u = n0 := hu
        have g3 : ¬ u < l := by omega
        simp [st.ag _ _ hx, st.ag _ _ hk, Instr.sliceAt, run_underlying ht, Instr.slice, Instr.sliceBounds, Instr.sliceBound, asIntOf, g2, g3, hlu, run_sizeOf hz]
      | some y' =>
        obtain ⟨k', hk'⟩ := hu
        have g3 : ¬ u < l := by omega
        have g4 : u ≤ c := by omega
        have g5 : ¬ c < u := by omega
        simp [st.ag _ _ hx, st.ag _ _ hk, st.ag _ _ hk', Instr.sliceAt, run_underlying ht, Instr.slice, Instr.sliceBounds, Instr.sliceBound, asIntOf, g1, g2, g3, g4, g5, hlu, run_sizeOf hz]
  refine op_val hr ?_
  rw [hd]
  have st' := st.put (Nat.le_of_ble_eq_true hN) (.slice (if c = l then A else A.map (·.add (l * z))) (u - l) (c - l))
  refine T_part i hi' (fun w hw => rdv_part (src_rd i hi' w hw).1 hlu hun) ?_ oM (hh _) _ _ st'
  intro ad e
  by_cases hc : c = l
  · rw [if_pos hc] at e; exact ⟨ad, e, rfl⟩
  · rw [if_neg hc] at e
    obtain ⟨ad', h3, h4⟩ := Option.map_eq_some_iff.1 e
    exact ⟨ad', h3, by rw [← h4, add_block]⟩
theorem pr_sla {t e : TypeId} {x : Operand} {lo hi : Option Operand} {g len z l u m : Nat} (hlu : l ≤ u) (hun : u ≤ len) (hl0 : l < len ∨ l = 0) (hm : l * z = m) (ht : P.underlying t = some (.array len e)) (hz : (P.info? e).map (·.size) = some z)
    (ho : o.op = .slice t x lo hi none) (hx : ev s x = some (.pointer (some ⟨g, 0, none⟩))) (hl : (match lo with | none => l = 0 | some y => ∃ k, ev s y = some (.int k (l : Int)))) (hu : (match hi with | none => u = len | some y => ∃ k, ev s y = some (.int k (u : Int)))) : Pr P s h o (.slice (some ⟨g, m, none⟩) (u - l) (len - l)) := fun ev' he w hw w' => by
  subst hm
  have g1 : (0 : Int) ≤ (u : Int) ∧ (u : Int) ≤ len := by omega
  have g2 : (0 : Int) ≤ (l : Int) ∧ (l : Int) ≤ u := by omega
  have key : (if len = l then (⟨g, 0, none⟩ : Addr) else (⟨g, 0, none⟩ : Addr).add (l * z)) = ⟨g, l * z, none⟩ := by
    by_cases hc : len = l
    · rw [if_pos hc]
      obtain rfl : l = 0 := by omega
      simp
    · rw [if_neg hc, Addr.add_lit, Nat.zero_add]
  unfold execOp; rw [ho]
  cases lo with
  | none =>
    obtain rfl : l = 0 := hl
    have key0 : (⟨g, 0, none⟩ : Addr).add 0 = ⟨g, 0, none⟩ := by rw [Addr.add_lit]
    cases hi with
    | none =>
      obtain rfl : u = len := hu
      simp [he _ _ hx, Instr.sliceAt, run_underlying ht, Instr.sureAddr, Instr.sliceBounds, run_sizeOf hz, key0]
    | some y =>
      obtain ⟨k, hk⟩ := hu
      have g3 : ¬ len < u := by omega
      have g4 : u ≤ len := by omega
      simp [he _ _ hx, he _ _ hk, Instr.sliceAt, run_underlying ht, Instr.sureAddr, Instr.sliceBounds, Instr.sliceBound, asIntOf, g1, g3, g4, run_sizeOf hz, key0]
  | some y =>
    obtain ⟨k, hk⟩ := hl
    cases hi with
    | none =>
      obtain rfl : u = len := hu
      have g3 : ¬ u < l := by omega
      simp [he _ _ hx, he _ _ hk, Instr.sliceAt, run_underlying ht, Instr.sureAddr, Instr.sliceBounds, Instr.sliceBound, asIntOf, g2, g3, hlu, run_sizeOf hz]
      simpa using key
    | some y' =>
      obtain ⟨k', hk'⟩ := hu
      have g3 : ¬ u < l := by omega
      have g4 : u ≤ len := by omega
      have g5 : ¬ len < u := by omega
      simp [he _ _ hx, he _ _ hk, he _ _ hk', Instr.sliceAt, run_underlying ht, Instr.sureAddr, Instr.sliceBounds, Instr.sliceBound, asIntOf, g1, g2, g3, g4, g5, hlu, run_sizeOf hz]
      simpa using key
theorem run_calls {f : FuncId} {c : Operand} {xs : List Operand} {ts : Array TypeId} {vs cap : List Value} {e : Operand → Value} (he : Ag s e) (hf : Go.Proofs.Enters P f) (ho : o.op = .call { callee := .value c, args := xs.toArray, argTypes := ts }) (hc : ev s c = some (.func (.func f) #[] cap.toArray)) (hx : xs.map (ev s) = vs.map some) (w : World) : (execOp e o).run P w = .ok (.enter f (vs ++ cap).toArray) w := by
  have key : ∀ (l : List Operand) (r : List Value), l.map (ev s) = r.map some → l.map e = r := by
    intro l
    induction l with
    | nil => intro r hr; cases r with | nil => rfl | cons _ _ => simp at hr
    | cons a l ih => intro r hr; cases r with
      | nil => simp at hr
      | cons b r => simp only [List.map_cons, List.cons.injEq] at hr ⊢; exact ⟨he _ _ hr.1, ih r hr.2⟩
  unfold execOp; rw [ho]
  have h1 := hf (vs ++ cap).toArray w
  simp [resolve, he _ _ hc, Deferred.ofValue, invoke, key xs vs hx, h1]
theorem op_call {T : Type} {q : T → Prop} {res : T → Value} {hs : T → List HA} {f : FuncId} {c : Operand} {xs : List Operand} {ts : Array TypeId} {vs cap : List Value} {out keep : List HA} {d : Nat} (hcon : ∀ w, HOK h w → Calls P f (vs ++ cap).toArray w (Ret (out.flatMap HA.ids) w q res hs)) (hp : h.Perm (out ++ keep)) (hf : Go.Proofs.Enters P f)
    (ho : o.op = .call { callee := .value c, args := xs.toArray, argTypes := ts }) (hc : ev s c = some (.func (.func f) #[] cap.toArray)) (hx : xs.map (ev s) = vs.map some) (hd : o.dst = some d) (hN : Nat.blt d X.N = true) (hh : ∀ t, q t → Tr X ((d, res t) :: s) (hs t ++ keep) K) : Tr X s h (Op P o K K0) := fun a w st => by
  unfold Op Oper.wp
  rw [run_calls st.ag hf ho hc hx w, Oper.upon_enter]
  refine (hcon w st.ok).mono fun e w' he => ?_
  obtain ⟨t, hq, rfl, hpo⟩ := he
  simp only
  rw [hd]
  exact hh t hq _ _ (st.swapv out keep (hs t) hp hN _ hpo.kp hpo.ok hpo.fr hpo.nd hpo.rd hpo.os)
theorem op_call0 {T : Type} {q : T → Prop} {res : T → Value} {hs : T → List HA} {f : FuncId} {c : Operand} {xs : List Operand} {ts : Array TypeId} {vs cap : List Value} {d : Nat} (hcon : ∀ w, HOK h w → Calls P f (vs ++ cap).toArray w (Ret [] w q res hs)) (hf : Go.Proofs.Enters P f)
    (ho : o.op = .call { callee := .value c, args := xs.toArray, argTypes := ts }) (hc : ev s c = some (.func (.func f) #[] cap.toArray)) (hx : xs.map (ev s) = vs.map some) (hd : o.dst = some d) (hN : Nat.blt d X.N = true) (hh : ∀ t, q t → Tr X ((d, res t) :: s) (hs t ++ h) K) : Tr X s h (Op P o K K0) :=
  op_call (out := []) (keep := h) (by simpa using hcon) (List.Perm.refl _) hf ho hc hx hd hN hh
theorem op_call1 {T : Type} {q : T → Prop} {res : T → Value} {hs : T → List HA} {f : FuncId} {c : Operand} {xs : List Operand} {ts : Array TypeId} {vs cap : List Value} {d : Nat} {x : HA} (i : Nat) (hi : h[i]? = some x) (hcon : ∀ w, HOK h w → Calls P f (vs ++ cap).toArray w (Ret x.ids w q res hs)) (hf : Go.Proofs.Enters P f)
    (ho : o.op = .call { callee := .value c, args := xs.toArray, argTypes := ts }) (hc : ev s c = some (.func (.func f) #[] cap.toArray)) (hx : xs.map (ev s) = vs.map some) (hd : o.dst = some d) (hN : Nat.blt d X.N = true) (hh : ∀ t, q t → Tr X ((d, res t) :: s) (hs t ++ h.eraseIdx i) K) : Tr X s h (Op P o K K0) :=
  op_call (out := [x]) (keep := h.eraseIdx i) (by simpa using hcon) (perm_erase h i x hi) hf ho hc hx hd hN hh
theorem resb {fn : Func} {p : Nat} {ty : TypeId} {g : Nat} {e' : TypeId} {cs : List Value} {td : TypeDesc} (i : Nat) (hi : h[i]? = some (.blk g e' cs)) (hr : fn.results = #[.cell p ty]) (hp : s.lookup p = some (.pointer (some ⟨g, 0, none⟩))) (ht : P.underlying ty = some td) (hn : isAggT td = true) (hz : (P.info? ty).map (·.size) = some cs.length) : ResV P fn s h (.agg cs.toArray) := fun tmps hs w hw => by
  have hb : w.heap[g]? = some (.cells cs.toArray e' (0, 0)) := hw _ (List.mem_of_getElem? hi)
  refine results_cell_row hr tmps w g e' cs.toArray (0, 0) td (by simp [Array.getD_eq_getD_getElem?, hs p _ hp]) hb ht ?_ (by simpa using hz)
  cases td <;> first | (cases hn; done) | rfl
end
end Go.Proofs.YtlplpmkdebemnaaGreat.Fw
namespace Go.Proofs.YtlplpmkdebemnaaGreat.Fw
open Go.RowKit Bv
theorem ib_and8 (x y : BitVec 8) : Op.intBits .and .u8 (n8 x) (n8 y) = pure (.int .u8 (n8 (x &&& y))) := congrArg (fun z => (pure (Value.int .u8 z) : Sem Value)) (and8 x y)
theorem ib_or8 (x y : BitVec 8) : Op.intBits .or .u8 (n8 x) (n8 y) = pure (.int .u8 (n8 (x ||| y))) := congrArg (fun z => (pure (Value.int .u8 z) : Sem Value)) (or8 x y)
theorem ib_xor8 (x y : BitVec 8) : Op.intBits .xor .u8 (n8 x) (n8 y) = pure (.int .u8 (n8 (x ^^^ y))) := congrArg (fun z => (pure (Value.int .u8 z) : Sem Value)) (xor8 x y)
theorem get8 {xs : List (BitVec 8)} {m : Nat} (h : m < xs.length) : (xs.map b8)[m]? = some (b8 (ath xs m)) := by rw [List.getElem?_map, List.getElem?_eq_getElem h, ath_get xs m h]; rfl
theorem nw8 (m : Nat) : IntKind.u8.wrap (m : Int) = n8 (BitVec.ofNat 8 m) := by rw [Bv.wrap8, BitVec.ofInt_natCast]
theorem ib_and32 (x y : BitVec 32) : Op.intBits .and .u32 (n32 x) (n32 y) = pure (.int .u32 (n32 (x &&& y))) := congrArg (fun z => (pure (Value.int .u32 z) : Sem Value)) (and32 x y)
theorem ib_or32 (x y : BitVec 32) : Op.intBits .or .u32 (n32 x) (n32 y) = pure (.int .u32 (n32 (x ||| y))) := congrArg (fun z => (pure (Value.int .u32 z) : Sem Value)) (or32 x y)
theorem ib_xor32 (x y : BitVec 32) : Op.intBits .xor .u32 (n32 x) (n32 y) = pure (.int .u32 (n32 (x ^^^ y))) := congrArg (fun z => (pure (Value.int .u32 z) : Sem Value)) (xor32 x y)
theorem sh_shl32 (x : BitVec 32) (yk : IntKind) (m : Nat) : Op.shift .shl .u32 (n32 x) yk (m : Int) = pure (.int .u32 (n32 (x <<< m))) := shll32 x yk m
theorem sh_shr32 (x : BitVec 32) (yk : IntKind) (m : Nat) : Op.shift .shr .u32 (n32 x) yk (m : Int) = pure (.int .u32 (n32 (x >>> m))) := shrl32 x yk m
theorem cm_lt32 (x y : BitVec 32) : decide (n32 x < n32 y) = decide (x < y) := by simp only [n32_lt]
theorem get32 {xs : List (BitVec 32)} {m : Nat} (h : m < xs.length) : (xs.map b32)[m]? = some (b32 (ath xs m)) := by rw [List.getElem?_map, List.getElem?_eq_getElem h, ath_get xs m h]; rfl
theorem nw32 (m : Nat) : IntKind.u32.wrap (m : Int) = n32 (BitVec.ofNat 32 m) := by rw [Bv.wrap32, BitVec.ofInt_natCast]
theorem ib_and64 (x y : BitVec 64) : Op.intBits .and .u64 (n64 x) (n64 y) = pure (.int .u64 (n64 (x &&& y))) := congrArg (fun z => (pure (Value.int .u64 z) : Sem Value)) (and64 x y)
theorem ib_or64 (x y : BitVec 64) : Op.intBits .or .u64 (n64 x) (n64 y) = pure (.int .u64 (n64 (x ||| y))) := congrArg (fun z => (pure (Value.int .u64 z) : Sem Value)) (or64 x y)
theorem ib_xor64 (x y : BitVec 64) : Op.intBits .xor .u64 (n64 x) (n64 y) = pure (.int .u64 (n64 (x ^^^ y))) := congrArg (fun z => (pure (Value.int .u64 z) : Sem Value)) (xor64 x y)
theorem ib_andNot64 (x y : BitVec 64) : Op.intBits .andNot .u64 (n64 x) (n64 y) = pure (.int .u64 (n64 (x &&& ~~~y))) := congrArg (fun z => (pure (Value.int .u64 z) : Sem Value)) (andNot64 x y)
theorem sh_shl64 (x : BitVec 64) (yk : IntKind) (m : Nat) : Op.shift .shl .u64 (n64 x) yk (m : Int) = pure (.int .u64 (n64 (x <<< m))) := shll64 x yk m
theorem sh_shr64 (x : BitVec 64) (yk : IntKind) (m : Nat) : Op.shift .shr .u64 (n64 x) yk (m : Int) = pure (.int .u64 (n64 (x >>> m))) := shrl64 x yk m
theorem un_neg64 (x : BitVec 64) : Op.unary .neg (.int .u64 (n64 x)) = pure (.int .u64 (n64 (-x))) := by
  show Op.intArith .sub .u64 0 (n64 x) = _
  unfold Op.intArith
  rw [← neg64 x]; simp
theorem cm_lt64 (x y : BitVec 64) : decide (n64 x < n64 y) = decide (x < y) := by simp only [n64_lt]
theorem cm_le64 (x y : BitVec 64) : decide (n64 x ≤ n64 y) = decide (x ≤ y) := by rw [decide_eq_decide]; unfold n64; rw [BitVec.le_def]; omega
theorem get64 {xs : List (BitVec 64)} {m : Nat} (h : m < xs.length) : (xs.map b64)[m]? = some (b64 (ath xs m)) := by rw [List.getElem?_map, List.getElem?_eq_getElem h, ath_get xs m h]; rfl
theorem nw64 (m : Nat) : IntKind.u64.wrap (m : Int) = n64 (BitVec.ofNat 64 m) := by rw [Bv.wrap64, BitVec.ofInt_natCast]
theorem na_i64 {a b : Nat} (h : a + b ≤ 9223372036854775807) : IntKind.i64.wrap ((a : Int) + (b : Int)) = ((a + b : Nat) : Int) := by rw [IntKind.wrap_i64]; omega
theorem ns_i64 {a b : Nat} (h : b ≤ a) (h2 : a ≤ 9223372036854775807) : IntKind.i64.wrap ((a : Int) - (b : Int)) = ((a - b : Nat) : Int) := by rw [IntKind.wrap_i64]; omega
theorem nm_i64 {a b : Nat} (h : a * b ≤ 9223372036854775807) : IntKind.i64.wrap ((a : Int) * (b : Int)) = ((a * b : Nat) : Int) := by
  have e : (a : Int) * (b : Int) = ((a * b : Nat) : Int) := by simp
  rw [e]; generalize a * b = q at h; rw [IntKind.wrap_i64]; omega
theorem ni_i64 {a : Nat} (h : a ≤ 9223372036854775807) : IntKind.i64.wrap (a : Int) = (a : Int) := by rw [IntKind.wrap_i64]; omega
theorem ni_u64 {a : Nat} (h : a ≤ 18446744073709551615) : IntKind.u64.wrap (a : Int) = (a : Int) := by simp [IntKind.wrap, IntKind.bits, IntKind.signed]; omega
theorem nc_lt {a b : Nat} : decide ((a : Int) < (b : Int)) = decide (a < b) := by rw [decide_eq_decide]; omega
theorem nc_le {a b : Nat} : decide ((a : Int) ≤ (b : Int)) = decide (a ≤ b) := by rw [decide_eq_decide]; omega
theorem nc_eq {a b : Nat} : ((a : Int) == (b : Int)) = (a == b) := by rw [Bool.eq_iff_iff]; simp; omega
theorem nc_ne {a b : Nat} : ((a : Int) != (b : Int)) = (a != b) := by simp only [bne, nc_eq]
theorem zc_u64 (z : Int) : IntKind.u64.wrap z = n64 (BitVec.ofInt 64 z) := Bv.wrap64 z
theorem nmax {k : IntKind} {a b : Nat} : Value.int k (if (a : Int) < (b : Int) then (b : Int) else (a : Int)) = .int k ((max a b : Nat) : Int) := by congr 1; split <;> omega
theorem nmin {k : IntKind} {a b : Nat} : Value.int k (if (b : Int) < (a : Int) then (b : Int) else (a : Int)) = .int k ((min a b : Nat) : Int) := by congr 1; split <;> omega
theorem nat64 {m : Nat} (h : m ≤ 18446744073709551615) : Value.int .u64 (m : Int) = b64 (BitVec.ofNat 64 m) := by
  show Value.int .u64 _ = Value.int .u64 _
  congr 1; unfold n64; rw [BitVec.toNat_ofNat]; omega
theorem own_one {x : HA} {w : World} (hx : x.ok w) (hb : x.outB = true) (ho : x.rids = []) : Own x.ids [x] w := by
  refine ⟨fun y hy => by rw [List.mem_singleton] at hy; subst hy; cases y <;> first | exact ⟨rfl, rfl⟩ | (cases hb; done), fun y hy => by rw [List.mem_singleton] at hy; subst hy; exact hx, fun y hy k hk => ?_, ?_, fun y hy z hz r hr => ?_⟩
  · rw [List.mem_singleton] at hy; subst hy
    cases y <;> first | exact hk | (cases hb; done) | (simp only [HA.rids] at ho; simp only [HA.frs] at hk; rw [ho] at hk; cases hk)
  · cases x <;> simp [HA.ids]
    rename_i v _ _ _ _
    cases v.ownBlock <;> simp
  · rw [List.mem_singleton] at hy; subst hy; rw [ho] at hr; cases hr
def rdB : HA → Bool
  | .rd _ _ _ _ _ => true
  | .all _ => true
  | _ => false
theorem own_rds {h : List HA} {w : World} (hh : HOK h w) (hb : h.all rdB = true) : Own [] h w := by
  have key : ∀ x ∈ h, x.frs = [] ∧ x.ids = [] := fun x hx => by
    have := List.all_eq_true.1 hb x hx
    cases x <;> first | exact ⟨rfl, rfl⟩ | (cases this; done)
  refine ⟨fun x hx => (by have := List.all_eq_true.1 hb x hx; cases x <;> first | exact ⟨rfl, rfl⟩ | (cases this; done)), hh, fun x hx k hk => (by rw [(key x hx).1] at hk; cases hk), ?_, fun x _ y hy r _ => by rw [(key y hy).2]; simp⟩
  have : h.flatMap HA.ids = [] := List.flatMap_eq_nil_iff.2 fun x hx => (key x hx).2
  rw [this]; exact List.nodup_nil
theorem src_full {h : List HA} {g z n c : Nat} {e : TypeId} {cs : List Value} (i : Nat) (hi : h[i]? = some (.blk g e cs)) (hl : cs.length = n * z) (hc : n ≤ c) (hm : c ≤ 9223372036854775807) : Src h (some ⟨g, 0, none⟩) z n c cs :=
  src_blk i hi hl (by rw [List.drop_zero, ← hl]; exact List.take_length) hc hm
theorem src_sub {h : List HA} {β : Type} {f : β → Value} {xs : List β} {g m n c : Nat} {e : TypeId} (i : Nat) (hi : h[i]? = some (.blk g e (xs.map f))) (hn : m + n ≤ xs.length) (hc : n ≤ c) (hm : c ≤ 9223372036854775807) : Src h (some ⟨g, m, none⟩) 1 n c (((xs.drop m).take n).map f) :=
  src_blk i hi (by simp; omega) (by rw [Nat.mul_one, List.map_take, List.map_drop]) hc hm
def pat (L : List Pt) (j : Nat) : Pt := L.getD j ⟨none, 0, 0, []⟩
theorem pat_mem {L : List Pt} {j : Nat} (h : j < L.length) : pat L j ∈ L := by unfold pat; rw [List.getD_eq_getElem?_getD, List.getElem?_eq_getElem h]; simp
theorem pat_get {L : List Pt} {j : Nat} (h : j < L.length) : (L.map Pt.sl)[j]? = some (.slice (pat L j).A (pat L j).n (pat L j).c) := by
  unfold pat; rw [List.getElem?_map, List.getD_eq_getElem?_getD, List.getElem?_eq_getElem h]; rfl
def catp (L : List Pt) : List (BitVec 8) := L.flatMap (·.xs)
theorem catp_take {L : List Pt} {j : Nat} (h : j < L.length) : catp (L.take (j + 1)) = catp (L.take j) ++ (pat L j).xs := by
  unfold catp pat
  rw [List.take_succ_eq_append_getElem h, List.flatMap_append, List.getD_eq_getElem?_getD, List.getElem?_eq_getElem h]
  simp
theorem catp_le (L : List Pt) (j : Nat) : (catp (L.take j)).length ≤ (catp L).length := by
  have : catp L = catp (L.take j) ++ catp (L.drop j) := by unfold catp; rw [← List.flatMap_append, List.take_append_drop]
  rw [this, List.length_append]; omega
theorem T_ofall {X : Cx} {s : List (Nat × Value)} {h : List HA} {J : Jd} (i : Nat) {L : List Pt} (hi : h[i]? = some (.all L)) {p : Pt} (hp : p ∈ L) (hh : p.xs.length = p.n → p.n ≤ p.c → Tr X s (.rd p.A 1 p.n p.c (p.xs.map b8) :: h) J) : Tr X s h J := fun a w st => by
  have hm := List.mem_of_getElem? hi
  have hx : (HA.all L).ok w := st.ok _ hm
  have h1 := hx p hp
  have hr : ∀ r ∈ (HA.rd p.A 1 p.n p.c (p.xs.map b8)).rids, r ∈ (HA.all L).rids := fun r hr => List.mem_flatMap.2 ⟨p, hp, hr⟩
  refine hh (by have := h1.1.len; simpa using this) h1.1.le a w ⟨st.sz, st.df, st.sl, st.kp, ?_, st.ll, ?_, by simpa [HA.ids] using st.nd, ?_, ?_, ?_, ⟨st.rk.1, ?_⟩⟩
  · intro x hx'
    rcases List.mem_cons.1 hx' with rfl | hx'
    · exact h1
    · exact st.ok x hx'
  · intro x hx' k hk
    rcases List.mem_cons.1 hx' with rfl | hx'
    · cases hk
    · exact st.fr x hx' k hk
  · intro x hx' y hy r hrr hry
    rcases List.mem_cons.1 hy with rfl | hy
    · cases hry
    · rcases List.mem_cons.1 hx' with rfl | hx'
      · exact st.dj _ hm y hy r (hr r hrr) hry
      · exact st.dj x hx' y hy r hrr hry
  · intro x hx' q hq y hy hyb hqr
    rcases List.mem_cons.1 hx' with rfl | hx'
    · cases hq
    · rcases List.mem_cons.1 hy with rfl | hy
      · exact st.iv x hx' q hq _ hm rfl (hr q hqr)
      · exact st.iv x hx' q hq y hy hyb hqr
  · intro x hx' B hB
    rcases List.mem_cons.1 hx' with rfl | hx'
    · cases hB
    · exact st.ib x hx' B hB
  · intro x hx' r hrr
    rcases List.mem_cons.1 hx' with rfl | hx'
    · exact st.rk.2 _ hm r (hr r hrr)
    · exact st.rk.2 x hx' r hrr
theorem pr_cap_sl {P : Program} {s : List (Nat × Value)} {h : List HA} {o : Oper} {x : Operand} {t e' : TypeId} {A : Option Addr} {n c : Nat} (ht : P.underlying t = some (.slice e')) (ho : o.op = .call { callee := .builtin .cap, args := #[x], argTypes := #[t] }) (hx : ev s x = some (.slice A n c)) : Pr P s h o (.int .i64 (c : Int)) := fun e he w hw w' => by
  unfold execOp; rw [ho]; simp [he _ _ hx, resolve, invoke, builtin, Builtin.cap_, run_underlying ht, goInt]
theorem op_reslice {X : Cx} {s : List (Nat × Value)} {h : List HA} {P : Program} {o : Oper} {K K0 : Jd} {d : Nat} {t e e2 : TypeId} {x hi : Operand} {A : Option Addr} {z n c u : Nat} {zs : List Value} {k2 : IntKind} (i : Nat) (hi' : h[i]? = some (.row (.slice A n c) e2 z n zs)) (hun : u ≤ n) (ht : P.underlying t = some (.slice e)) (hz : (P.info? e).map (·.size) = some z)
    (ho : o.op = .slice t x none (some hi) none) (hx : ev s x = some (.slice A n c)) (hu : ev s hi = some (.int k2 (u : Int))) (hd : o.dst = some d) (hN : Nat.blt d X.N = true)
    (hh : Tr X ((d, .slice A u c) :: s) (.row (.slice A u c) e2 z u (zs.take (u * z)) :: h.eraseIdx i) K) : Tr X s h (Op P o K K0) := fun a w st => by
  have hown : w.ownsRow 0 e2 z (.slice A n c) n zs := st.ok _ (List.mem_of_getElem? hi')
  have hnc : n ≤ c := (src_row i hi' w st.ok).1.le
  have hr : (execOp a.eval o).run P w = .ok (.value (.slice A u c)) w := by
    have g1 : (0 : Int) ≤ (u : Int) ∧ (u : Int) ≤ c := by omega
    have g4 : u ≤ c := by omega
    have g5 : ¬ c < u := by omega
    unfold execOp; rw [ho]
    cases A with
    | none => simp [st.ag _ _ hx, st.ag _ _ hu, Instr.sliceAt, run_underlying ht, Instr.slice, Instr.sliceBounds, Instr.sliceBound, asIntOf, g1, g4, g5, run_sizeOf hz]
    | some ad => simp [st.ag _ _ hx, st.ag _ _ hu, Instr.sliceAt, run_underlying ht, Instr.slice, Instr.sliceBounds, Instr.sliceBound, asIntOf, g1, g4, g5, run_sizeOf hz, add0]
  refine op_val hr ?_
  rw [hd]
  have hown2 : w.ownsRow 0 e2 z (.slice A u c) u (zs.take (u * z)) := by
    obtain ⟨hl, h1 | ⟨g, cap, cur, hv, hb, hg, h2, h3, h4, h5⟩⟩ := hown
    · obtain ⟨h2, h3⟩ := h1
      obtain rfl : u = 0 := by omega
      refine ⟨by simp, .inl ⟨?_, rfl⟩⟩
      cases h2; rfl
    · cases hv
      have hle : u * z ≤ n * z := Nat.mul_le_mul_right z hun
      refine ⟨by rw [List.length_take, hl]; omega, .inr ⟨g, c, cur, rfl, Nat.zero_le _, hg, by omega, h3, h4, ?_⟩⟩
      rw [← h5, List.take_take, Nat.min_eq_left hle]
  refine hh _ _ (st.swapv [.row (.slice A n c) e2 z n zs] (h.eraseIdx i) [.row (.slice A u c) e2 z u (zs.take (u * z))] (perm_erase h i _ hi') hN _ (Keep.refl _ _) ?_ ?_ ?_ ?_)
  · intro x hx; rw [List.mem_singleton] at hx; subst hx; exact hown2
  · intro x hx k hk; rw [List.mem_singleton] at hx; subst hx
    refine .inl ?_
    cases A with
    | none => cases hk
    | some ad => simpa [HA.ids, HA.frs, Value.ownBlock] using hk
  · cases A <;> simp [HA.ids, Value.ownBlock]
  · intro x hx r hr; rw [List.mem_singleton] at hx; subst hx; cases hr
theorem hok_nil (w : World) : HOK [] w := by intro x hx; cases hx
theorem hok_cons {x : HA} {h : List HA} {w : World} (hx : x.ok w) (hh : HOK h w) : HOK (x :: h) w := by
  intro y hy
  rcases List.mem_cons.1 hy with rfl | hy
  · exact hx
  · exact hh y hy
def cop {α : Type} (xs : List α) (m : Nat) (ys : List α) (k : Nat) : List α := xs.take m ++ ys.take k ++ xs.drop (m + (ys.take k).length)
theorem cop_map {α : Type} {f : α → Value} (xs : List α) (m : Nat) (ys : List α) (k : Nat) : (xs.map f).take m ++ (ys.map f).take k ++ (xs.map f).drop (m + ((ys.map f).take k).length) = (cop xs m ys k).map f := by
  unfold cop; simp [List.map_take, List.map_drop]
theorem un_negi {a : Nat} (h : a ≤ 9223372036854775807) : Op.unary .neg (.int .i64 (a : Int)) = pure (.int .i64 (-(a : Int))) := by
  show Op.intArith .sub .i64 0 (a : Int) = _
  unfold Op.intArith
  have : IntKind.i64.wrap (0 - (a : Int)) = -(a : Int) := by rw [IntKind.wrap_i64]; omega
  simp only [this]
theorem chunk_lt (z n k : Nat) (hz : 0 < z) (h : z * k < n) : k < (n + z - 1) / z := by
  rw [Nat.lt_div_iff_mul_lt hz]
  have : k * z = z * k := Nat.mul_comm k z
  omega
theorem chunk_le (z n k : Nat) (hz : 0 < z) (h : z * k < n) : k + 1 ≤ (n + z - 1) / z := chunk_lt z n k hz h
theorem chunk_ge (z n k : Nat) (hz : 0 < z) (hk : k ≤ (n + z - 1) / z) (h : ¬ z * k < n) : k = (n + z - 1) / z := by
  apply Nat.le_antisymm hk
  apply Nat.le_of_lt_succ
  rw [Nat.div_lt_iff_lt_mul hz, Nat.succ_mul, Nat.mul_comm k z]
  omega
theorem chunk_mul (z n k : Nat) (hz : 0 < z) (hk : k ≤ (n + z - 1) / z) : z * k ≤ n + z := by
  have := Nat.mul_le_mul_left z hk
  have h2 := Nat.mul_div_le (n + z - 1) z
  omega
theorem rot_and (k : Int) (s : Nat) (hs : s < 32) (hk : k % 32 = s) : BitVec.ofInt 64 k &&& 31#64 = BitVec.ofNat 64 s := by
  apply BitVec.eq_of_toNat_eq
  rw [BitVec.toNat_and, BitVec.toNat_ofInt, BitVec.toNat_ofNat, BitVec.toNat_ofNat]
  rw [show 31 % 2 ^ 64 = 2 ^ 5 - 1 from rfl, Nat.and_two_pow_sub_one_eq_mod]
  omega
theorem pr_as {P : Program} {s : List (Nat × Value)} {h : List HA} {o : Oper} {v v' : Value} (hp : Pr P s h o v) (e : v = v') : Pr P s h o v' := e ▸ hp
theorem agg_all {cs : List Value} : (cs.drop 0).take cs.length = cs := by simp
end Go.Proofs.YtlplpmkdebemnaaGreat.Fw
namespace Go.Proofs.YtlplpmkdebemnaaGreat.Fw
open Go.RowKit Bv
theorem zeroCells_list (z : Value) (n : Nat) (hz : z.cells = #[z]) : Builtin.zeroCells z.cells n = (List.replicate n z).toArray := by
  rw [hz]
  apply Array.ext
  · simp [Builtin.zeroCells]
  · intro i h1 h2; simp [Builtin.zeroCells, Nat.mod_one]
section
variable {P : Program} {X : Cx} {s : List (Nat × Value)} {h : List HA} {a : Act} {w : World} {o : Oper} {K K0 : Jd} {v : Value}
theorem run_app0 {t ti ty e : TypeId} {ik : IntKind} {i : TypeInfo} {z : Value} {bytes : Nat} (w : World) (ht : P.underlying t = some (.slice e)) (hti : P.underlying ti = some (.int ik)) (hi : P.info? e = some i) (hz : i.zero = some z)
    (hsize : i.size = 1) (hby : i.bytes = bytes) (hzs : z.cells = #[z]) (hz1 : z.oneCell' = true) {v : Value} {n : Nat} {xs : List Value} (hown : w.ownsRow 0 e 1 v n xs) (m : Nat)
    (h63 : n + m ≤ 9223372036854775807) (hbytes : (n + m) * bytes ≤ 140737488355328) :
    ∃ A' c' w', (Builtin.append_ #[t, ti] ty #[v, .int .i64 (m : Int)]).run P w = .ok (.slice A' (n + m) c') w' ∧ w'.ownsRow 0 e 1 (.slice A' (n + m) c') (n + m) (xs ++ List.replicate m z) ∧ w.grownBy w' v.ownBlock ∧ (∀ k, (Value.slice A' (n + m) c').ownBlock = some k → v.ownBlock = some k ∨ w.heap.size ≤ k) := by
  subst hby
  have hw : IntKind.i64.wrap (m : Int) = (m : Int) := by rw [IntKind.wrap_i64]; omega
  have hm0 : ¬ (m : Int) < 0 := by omega
  have hw0 : IntKind.i64.wrap (0 : Int) = 0 := by rw [IntKind.wrap_i64]; omega
  have hmb : ¬ (281474976710656 < (m : Int) * (i.bytes : Int)) := by
    have h1 : m * i.bytes ≤ (n + m) * i.bytes := Nat.mul_le_mul_right _ oM
    have h2 : (m : Int) * (i.bytes : Int) = ((m * i.bytes : Nat) : Int) := by simp
    rw [h2]; omega
  have hzl : ∀ u ∈ List.replicate m z, u.oneCell' = true := fun u hu => by rw [(List.mem_replicate.1 hu).2]; exact hz1
  rcases hown.2 with ⟨rfl, rfl⟩ | ⟨g, cap, cur, rfl, -, hgb, hnc, hcm, hcs, htake⟩
  · have hx : xs = [] := List.eq_nil_of_length_eq_zero (by simpa using hown.1)
    subst hx
    by_cases hm : m = 0
    · subst hm
      refine ⟨none, 0, w, ?_, World.ownsRow_nil w 0 e 1, World.grownBy.refl _ _, (fun k hk => by cases hk)⟩
      simp [Builtin.append_, run_underlying ht, run_underlying hti, sizeOf, typeInfo, hi, hsize, asInt, asIntOf, hw0]
    · have hn : ¬ m ≤ 0 := by omega
      have h63' : ¬ (9223372036854775807 < (m : Int)) := by omega
      have h48 : ¬ (281474976710656 < Builtin.nextslicecap m 0 * i.bytes) := by
        have := nextslicecap_zero (need := m) oM; rw [this]
        rw [Nat.zero_add] at hbytes
        omega
      refine ⟨some ⟨w.heap.size, 0, none⟩, grownCap w m 0 e, w.drew.alloc (.cells ((List.replicate m z).toArray ++ Builtin.zeroCells z.cells (grownCap w m 0 e - m)) e), ?_, ?_, ⟨rfl, rfl, rfl, by simp, fun k hk _ => Below.heap_alloc w.drew _ k hk⟩, fun k hk => .inr (by simp [Value.ownBlock] at hk; omega)⟩
      · simp [Builtin.append_, run_underlying ht, run_underlying hti, sizeOf, typeInfo, zeroValue, hi, hz, hsize, asInt, asIntOf, hw, hm0, hmb, hm, hn, h63', h48, Builtin.firstCells, Question.forced, newRow, grownCap, zeroCells_list z _ hzs]
      · have hge := grownCap_ge w m 0 e
        have hcm := grownCap_le_maxLen w m 0 e (by unfold maxLen; omega)
        refine ⟨by simp, .inr ⟨w.heap.size, _, _, by rw [Nat.zero_add], Nat.zero_le _, heap_alloc_new w.drew _, by omega, hcm, ?_, ?_⟩⟩
        · rw [zeroCells_list z _ hzs]; simp; omega
        · rw [zeroCells_list z _ hzs]; simp
  · by_cases hroom : n + m ≤ cap
    · have hst := run_storeCells_at (P := P) g n e (List.replicate m z) 0 cur w hgb (by simp; omega) hzl
      simp only [Nat.add_zero] at hst
      refine ⟨some ⟨g, 0, none⟩, cap, w.setRow g (cur.toList.take n ++ List.replicate m z ++ cur.toList.drop (n + (List.replicate m z).length)).toArray, ?_, ?_, ⟨rfl, rfl, rfl, by simp, fun k _ hk => setRow_other w g k _ (fun e => hk (by simp [Value.ownBlock, e]))⟩, fun k hk => .inl hk⟩
      · by_cases hm : m = 0
        · subst hm
          have hst0 : (storeCells (⟨g, n, none⟩ : Addr) []).run P w = .ok () (w.setRow g (cur.toList.take n ++ List.replicate 0 z ++ cur.toList.drop (n + (List.replicate 0 z).length)).toArray) := hst
          have hcn : ¬ cap < n := by omega
          have hcn2 : n ≤ cap := by omega
          simp [Addr.add_lit] at hst0
          simp [Builtin.append_, run_underlying ht, run_underlying hti, sizeOf, typeInfo, zeroValue, hi, hz, hsize, asInt, asIntOf, hw0, hcn, hcn2, Addr.add_lit, hst0]
        · simp [Builtin.append_, run_underlying ht, run_underlying hti, sizeOf, typeInfo, zeroValue, hi, hz, hsize, asInt, asIntOf, hw, hm0, hmb, hm, hroom, zeroCells_list z _ hzs, Addr.add_lit, hst]
      · refine ⟨?_, .inr ⟨g, cap, _, rfl, Nat.zero_le _, setRow_heap w g cur _ e _ hgb, hroom, hcm, ?_, ?_⟩⟩
        · have := hown.1; simp at this ⊢; omega
        · simp; omega
        · have hl : xs.length = n := by simpa using hown.1
          have hx : cur.toList.take n = xs := by simpa using htake
          simp only [List.toList_toArray, hx]
          rw [List.append_assoc, Nat.mul_one, show n + m = (xs ++ List.replicate m z).length by simp [hl], ← List.append_assoc]
          exact List.take_left
    · have hn : ¬ m = 0 := by omega
      have h63' : ¬ (9223372036854775807 < ((n : Int) + (m : Int))) := by omega
      have h48 : ¬ (281474976710656 < Builtin.nextslicecap (n + m) cap * i.bytes) := by
        have := growslice_fits (bytes := i.bytes) (need := n + m) (old := cap) oM hbytes; omega
      have hf := run_firstCells_some (P := P) w.drew 1 n ⟨g, 0, none⟩ n cap xs hown.1 (by simpa using hown.cells (g := g) rfl)
      refine ⟨some ⟨w.heap.size, 0, none⟩, grownCap w (n + m) cap e, w.drew.alloc (.cells (xs.toArray ++ (List.replicate m z).toArray ++ Builtin.zeroCells z.cells (grownCap w (n + m) cap e - (n + m))) e), ?_, ?_, ⟨rfl, rfl, rfl, by simp, fun k hk _ => Below.heap_alloc w.drew _ k hk⟩, fun k hk => .inr (by simp [Value.ownBlock] at hk; omega)⟩
      · simp [Builtin.append_, run_underlying ht, run_underlying hti, sizeOf, typeInfo, zeroValue, hi, hz, hsize, asInt, asIntOf, hw, hm0, hmb, hn, hroom, h63', h48, Question.forced, newRow, grownCap, zeroCells_list z _ hzs, hf]
      · have hge := grownCap_ge w (n + m) cap e
        have hcm := grownCap_le_maxLen w (n + m) cap e (by unfold maxLen; omega)
        have hl : xs.length = n := by simpa using hown.1
        refine ⟨by simp [hl], .inr ⟨w.heap.size, _, _, rfl, Nat.zero_le _, heap_alloc_new w.drew _, hge, hcm, ?_, ?_⟩⟩
        · rw [zeroCells_list z _ hzs]; simp [hl]; omega
        · rw [zeroCells_list z _ hzs]
          simp only [Array.toList_append, List.toList_toArray, Nat.mul_one]
          rw [show n + m = (xs ++ List.replicate m z).length by simp [hl]]
          exact List.take_left
theorem op_append0 {d : Nat} {t ti e : TypeId} {ik : IntKind} {x y : Operand} {z : Value} {bytes n m : Nat} {xs : List Value} (i : Nat) (hi : h[i]? = some (.row v e 1 n xs)) (ht : P.underlying t = some (.slice e)) (hti : P.underlying ti = some (.int ik)) (hin : (P.info? e).map (fun i => (i.zero, i.size, i.bytes)) = some (some z, 1, bytes)) (hzs : z.cells = #[z]) (hz1 : z.oneCell' = true)
    (h63 : n + m ≤ 9223372036854775807) (hbytes : (n + m) * bytes ≤ 140737488355328)
    (ho : o.op = .call { callee := .builtin .append, args := #[x, y], argTypes := #[t, ti] }) (hx : ev s x = some v) (hy : ev s y = some (.int .i64 (m : Int))) (hd : o.dst = some d) (hN : Nat.blt d X.N = true)
    (hh : ∀ A' c', Tr X ((d, .slice A' (n + m) c') :: s) (.row (.slice A' (n + m) c') e 1 (n + m) (xs ++ List.replicate m z) :: h.eraseIdx i) K) : Tr X s h (Op P o K K0) := fun a w st => by
  obtain ⟨tinf, hi1, hi2⟩ := Option.map_eq_some_iff.1 hin
  simp only [Prod.mk.injEq] at hi2
  obtain ⟨hz, hsize, hby⟩ := hi2
  have hown : w.ownsRow 0 e 1 v n xs := st.ok _ (List.mem_of_getElem? hi)
  obtain ⟨A', c', w', hr, ho', hg', hb'⟩ := run_app0 (P := P) (ty := o.type) w ht hti hi1 hz hsize hby hzs hz1 hown m h63 hbytes
  have hr' : (execOp a.eval o).run P w = .ok (.value (.slice A' (n + m) c')) w' := by
    unfold execOp
    rw [ho]
    simp [resolve, invoke, builtin, st.ag _ _ hx, st.ag _ _ hy, hr]
  refine op_val hr' ?_
  rw [hd]
  refine hh A' c' _ _ (st.swapv [.row v e 1 n xs] (h.eraseIdx i) [.row (.slice A' (n + m) c') e 1 (n + m) (xs ++ List.replicate m z)] (perm_erase h i _ hi) hN _ ?_ ?_ ?_ ?_ ?_)
  · have := Keep.of_grown hg'; simpa [HA.ids] using this
  · intro x hx; rw [List.mem_singleton] at hx; subst hx; exact ho'
  · intro x hx k hk; rw [List.mem_singleton] at hx; subst hx
    have := hb' k (by simpa [HA.frs] using hk)
    exact this.imp (fun h => by simp [HA.ids, h]) id
  · simp only [List.flatMap_cons, List.flatMap_nil, List.append_nil, HA.ids]
    cases (Value.slice A' (n + m) c').ownBlock <;> simp
  · intro x hx r hr; rw [List.mem_singleton] at hx; subst hx; cases hr
theorem op_copy {d : Nat} {t t2 e e2 : TypeId} {x y : Operand} {g m n c k c2 : Nat} {A : Option Addr} {cs news cs' : List Value} (i : Nat) (hi : h[i]? = some (.blk g e2 cs)) (ht : P.underlying t = some (.slice e)) (hz : (P.info? e).map (·.size) = some 1)
    (hs : Src h A 1 k c2 news) (h1 : ∀ u ∈ news, u.oneCell' = true) (hm : m + min k n ≤ cs.length) (hc : cs.take m ++ news.take (min k n) ++ cs.drop (m + (news.take (min k n)).length) = cs')
    (ho : o.op = .call { callee := .builtin .copy, args := #[x, y], argTypes := #[t, t2] }) (hx : ev s x = some (.slice (some ⟨g, m, none⟩) n c)) (hy : ev s y = some (.slice A k c2)) (hd : o.dst = some d) (hN : Nat.blt d X.N = true)
    (hh : Tr X ((d, .int .i64 ((min k n : Nat) : Int)) :: s) (.blk g e2 cs' :: h.eraseIdx i) K) : Tr X s h (Op P o K K0) := fun a w st => by
  have hb : w.heap[g]? = some (.cells cs.toArray e2 (0, 0)) := st.ok _ (List.mem_of_getElem? hi)
  have hrd := (hs w st.ok).1
  have hl : (news.take (min k n)).length = min k n := by have := hrd.len; simp; omega
  have hfirst : (Builtin.firstCells 1 (min k n) (.slice A k c2)).run P w = .ok (news.take (min k n)).toArray w := by
    cases A with
    | none =>
      have h0 := hrd.isn rfl; have h2 := hrd.le; have h3 := hrd.len
      obtain rfl : k = 0 := by omega
      simp [Builtin.firstCells]
    | some ad =>
      have := run_firstCells_some (P := P) w 1 (min k n) ad k c2 (news.take (min k n)) (by simpa using hl) (fun j u hu => hrd.cells ad rfl j u (by rw [List.getElem?_take] at hu; split at hu; exact hu; cases hu))
      exact this
  have hst := run_storeCells_at (P := P) g m e2 (news.take (min k n)) 0 cs.toArray w hb (by simp only [Nat.add_zero, hl]; simpa using hm) (fun u hu => h1 u (List.mem_of_mem_take hu))
  simp only [Nat.add_zero] at hst
  have hr : (execOp a.eval o).run P w = .ok (.value (.int .i64 ((min k n : Nat) : Int))) (w.setRow g cs'.toArray) := by
    unfold execOp; rw [ho]
    have hmin : Nat.min k n = min k n := rfl
    simp only [resolve, invoke, builtin, Sem.run_bind, Sem.run_pure, Result.andThen_ok, List.map_toArray, List.map_cons, List.map_nil, st.ag _ _ hx, st.ag _ _ hy]
    simp only [Builtin.copy_, List.getElem?_toArray, List.getElem?_cons_zero, List.getElem?_cons_succ, Sem.run_bind, run_underlying ht, Result.andThen_ok, Builtin.lenOf, Sem.run_pure, run_sizeOf hz, hmin, hfirst, hst]
    subst hc
    simp [goInt]
  refine op_val hr ?_
  rw [hd]
  refine hh _ _ (st.swapv [.blk g e2 cs] (h.eraseIdx i) [.blk g e2 cs'] (perm_erase h i _ hi) hN _ ⟨⟨rfl, rfl, rfl, by simp⟩, fun k _ hk => setRow_other w g k _ (fun e => hk (by simp [HA.ids, e]))⟩ ?_ ?_ ?_ ?_)
  · intro x hx; rw [List.mem_singleton] at hx; subst hx; exact setRow_heap w g _ _ e2 _ hb
  · intro x hx k hk; rw [List.mem_singleton] at hx; subst hx; exact .inl (by simpa [HA.ids, HA.frs] using hk)
  · simp [HA.ids]
  · intro x hx r hr; rw [List.mem_singleton] at hx; subst hx; cases hr
end
end Go.Proofs.YtlplpmkdebemnaaGreat.Fw
