/- Sealed bytes in plain words: what is tagged, the tag, sealed bytes. No conditions. -/
import Derived.Test.YtemjinkdfjoicaaPolyT
import Derived.Test.YtemjinkdfjoicaaChaP
import Derived.Test.YtemjinkdfjoicaaCtPure
namespace Go.Proofs.Ytemjinkdfjoicaa
set_option linter.unusedVariables false
set_option linter.unusedSimpArgs false
open Bv Fw
/-- Zeros up to a multiple of sixteen bytes. -/
def z16 (xs : List (BitVec 8)) : List (BitVec 8) := List.replicate ((16 - xs.length % 16) % 16) 0#8
theorem z16_def (xs : List (BitVec 8)) (n : Nat) (h : xs.length = n) : List.replicate ((16 - n % 16) % 16) 0#8 = z16 xs := by subst h; rfl
def lens8 (a c : List (BitVec 8)) : List (BitVec 8) := lowb (BitVec.ofNat 64 a.length) 8 ++ lowb (BitVec.ofNat 64 c.length) 8
/-- What is tagged, part by part. -/
def pdc (a c : List (BitVec 8)) : Nat → List (BitVec 8)
  | 0 => a
  | 1 => z16 a
  | 2 => c
  | 3 => z16 c
  | _ => lens8 a c
def pdcat (a c : List (BitVec 8)) : Nat → List (BitVec 8)
  | 0 => []
  | k + 1 => pdcat a c k ++ pdc a c k
theorem pdcat_zero (a c : List (BitVec 8)) : pdcat a c 0 = [] := rfl
theorem pd_next {Q : List Pt} {a c : List (BitVec 8)} {B : Option Addr} {m d k : Nat} (h : catp Q = pdcat a c k) : catp (Q ++ [Pt.mk B m d (pdc a c k)]) = pdcat a c (k + 1) := by
  rw [pdcat, ← h]; simp [catp]
theorem pdc0 (a c : List (BitVec 8)) : pdc a c 0 = a := rfl
theorem pdc1 (a c : List (BitVec 8)) (n : Nat) (h : a.length = n) : pdc a c 1 = List.replicate ((16 - n % 16) % 16) 0#8 := by subst h; rfl
theorem pdc2 (a c : List (BitVec 8)) : pdc a c 2 = c := rfl
theorem pdc3 (a c : List (BitVec 8)) (n : Nat) (h : c.length = n) : pdc a c 3 = List.replicate ((16 - n % 16) % 16) 0#8 := by subst h; rfl
theorem pdc4 (a c : List (BitVec 8)) (n m : Nat) (h : a.length = n) (h2 : c.length = m) : pdc a c 4 = ([] ++ lowb (BitVec.ofNat 64 n) 8) ++ lowb (BitVec.ofNat 64 m) 8 := by subst h; subst h2; rfl
def atext (a c : List (BitVec 8)) : List (BitVec 8) := ((a ++ z16 a) ++ (c ++ z16 c)) ++ lens8 a c
theorem atext_def (a c : List (BitVec 8)) : ((a ++ z16 a) ++ (c ++ z16 c)) ++ lens8 a c = atext a c := rfl
theorem pdcat_all (a c : List (BitVec 8)) : pdcat a c 5 = atext a c := by
  have e : pdcat a c 5 = ((((([] ++ a) ++ z16 a) ++ c) ++ z16 c) ++ lens8 a c) := rfl
  rw [e]; unfold atext; simp
theorem z16_le (xs : List (BitVec 8)) : (z16 xs).length ≤ 15 := by unfold z16; rw [List.length_replicate]; omega
theorem lens8_len (a c : List (BitVec 8)) : (lens8 a c).length = 16 := by unfold lens8; rw [List.length_append, lowb_len, lowb_len]
theorem atext_le (a c : List (BitVec 8)) : (atext a c).length ≤ a.length + c.length + 46 := by
  unfold atext
  have h1 := z16_le a
  have h2 := z16_le c
  simp only [List.length_append, lens8_len]
  omega
/-- The tag of what stands beside and of what was turned. -/
def atag (key nonce a c : List (BitVec 8)) : List (BitVec 8) := ptag (List.take 32 (cblock key 0#32 nonce)) (atext a c)
theorem atag_def (key nonce a c : List (BitVec 8)) : ptag (List.take 32 (cblock key 0#32 nonce)) (atext a c) = atag key nonce a c := rfl
theorem atag_len (key nonce a c : List (BitVec 8)) : (atag key nonce a c).length = 16 := ptag_len _ _
/-- Sealed bytes. -/
def aseal (key nonce a p : List (BitVec 8)) : List (BitVec 8) := cxor key nonce 1#32 p ++ atag key nonce a (cxor key nonce 1#32 p)
theorem aseal_def (key nonce a p : List (BitVec 8)) : cxor key nonce 1#32 p ++ atag key nonce a (cxor key nonce 1#32 p) = aseal key nonce a p := rfl
theorem aseal_len (key nonce a p : List (BitVec 8)) : (aseal key nonce a p).length = p.length + 16 := by
  unfold aseal; rw [List.length_append, cxor_len, atag_len]
/-- Is the tag right? -/
def agood (key nonce a s : List (BitVec 8)) : Prop := atag key nonce a (List.take (s.length - 16) s) = List.drop (s.length - 16) s
instance (key nonce a s : List (BitVec 8)) : Decidable (agood key nonce a s) := by unfold agood; exact inferInstance
theorem agood_iff (key nonce a s : List (BitVec 8)) (n : Nat) (h : s.length = n) : agood key nonce a s ↔ atag key nonce a (List.take (n - 16) s) = List.drop (n - 16) s := by subst h; exact Iff.rfl
def aplain (key nonce s : List (BitVec 8)) : List (BitVec 8) := cxor key nonce 1#32 (List.take (s.length - 16) s)
theorem aplain_def (key nonce s : List (BitVec 8)) (n : Nat) (h : s.length = n) : cxor key nonce 1#32 (List.take (n - 16) s) = aplain key nonce s := by subst h; rfl
theorem aplain_len (key nonce s : List (BitVec 8)) : (aplain key nonce s).length = s.length - 16 := by
  unfold aplain; rw [cxor_len, List.length_take]; omega
theorem aseal_take (key nonce a p : List (BitVec 8)) : List.take ((aseal key nonce a p).length - 16) (aseal key nonce a p) = cxor key nonce 1#32 p := by
  rw [aseal_len, Nat.add_sub_cancel]; unfold aseal
  rw [List.take_append_of_le_length (by rw [cxor_len]; omega), List.take_of_length_le (by rw [cxor_len]; omega)]
theorem aseal_drop (key nonce a p : List (BitVec 8)) : List.drop ((aseal key nonce a p).length - 16) (aseal key nonce a p) = atag key nonce a (cxor key nonce 1#32 p) := by
  rw [aseal_len, Nat.add_sub_cancel]; unfold aseal
  rw [List.drop_append_of_le_length (by rw [cxor_len]; omega), List.drop_of_length_le (by rw [cxor_len]; omega), List.nil_append]
/-- What is sealed is opened. -/
theorem agood_seal (key nonce a p : List (BitVec 8)) : agood key nonce a (aseal key nonce a p) := by
  unfold agood; rw [aseal_take, aseal_drop]
theorem aplain_seal (key nonce a p : List (BitVec 8)) : aplain key nonce (aseal key nonce a p) = p := by
  unfold aplain; rw [aseal_take, cxor_cxor]
/-! Texts held against each other without branches. -/
def orx (xs ys : List (BitVec 8)) : Nat → BitVec 8
  | 0 => 0#8
  | k + 1 => orx xs ys k ||| (ath xs k ^^^ ath ys k)
theorem orx_zero (xs ys : List (BitVec 8)) : orx xs ys 0 = 0#8 := rfl
theorem orx_succ (xs ys : List (BitVec 8)) (k : Nat) : orx xs ys (k + 1) = orx xs ys k ||| (ath xs k ^^^ ath ys k) := rfl
theorem orx_iff (xs ys : List (BitVec 8)) : ∀ k, orx xs ys k = 0#8 ↔ ∀ j, j < k → ath xs j = ath ys j
  | 0 => ⟨fun _ j hj => by omega, fun _ => rfl⟩
  | k + 1 => by
    rw [orx, BitVec.or_eq_zero_iff, orx_iff xs ys k, BitVec.xor_eq_zero_iff]
    refine ⟨fun ⟨h1, h2⟩ j hj => ?_, fun h => ⟨fun j hj => h j (by omega), h k (by omega)⟩⟩
    by_cases e : j = k
    · subst e; exact h2
    · exact h1 j (by omega)
def eqw (xs ys : List (BitVec 8)) : BitVec 64 := if xs = ys then 1#64 else 0#64
theorem eqw_of (xs ys : List (BitVec 8)) (n : Nat) (hx : xs.length = n) (hy : ys.length = n) : CtPure.same ((orx xs ys n).setWidth 64) 0#64 = eqw xs ys := by
  rw [CtPure.same_eq]
  unfold eqw
  have h1 : ((orx xs ys n).setWidth 64 = 0#64) ↔ xs = ys := by
    have h2 : ((orx xs ys n).setWidth 64 = 0#64) ↔ orx xs ys n = 0#8 := by
      constructor
      · intro h
        apply BitVec.eq_of_toNat_eq
        have := congrArg BitVec.toNat h
        rw [BitVec.toNat_setWidth] at this
        have hl := (orx xs ys n).isLt
        have h0 : (0#64).toNat = 0 := rfl
        have h0' : (0#8).toNat = 0 := rfl
        rw [h0] at this
        rw [h0']
        omega
      · intro h; rw [h]; rfl
    rw [h2, orx_iff]
    exact ⟨fun h => ext_ath (by omega) (fun j hj => h j (by omega)), fun h j _ => by rw [h]⟩
  by_cases h : xs = ys
  · rw [if_pos h, if_pos (h1.2 h)]
  · rw [if_neg h, if_neg (fun e => h (h1.1 e))]
theorem eqw_yes {xs ys : List (BitVec 8)} (h : xs = ys) : (eqw xs ys == 0#64) = false := by unfold eqw; rw [if_pos h]; rfl
theorem eqw_no {xs ys : List (BitVec 8)} (h : ¬ xs = ys) : (eqw xs ys == 0#64) = true := by unfold eqw; rw [if_neg h]; rfl
attribute [irreducible] z16 lens8 pdc pdcat atext atag aseal agood aplain orx eqw
end Go.Proofs.Ytemjinkdfjoicaa
