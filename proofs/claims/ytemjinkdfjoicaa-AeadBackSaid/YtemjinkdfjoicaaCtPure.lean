/- The answers without branches are the answers with them: plain bit vectors, no program. No conditions. -/
namespace Go.Proofs.Ytemjinkdfjoicaa.CtPure
def less (a b : BitVec 64) : BitVec 64 := (~~~a &&& b ||| (~~~a ||| b) &&& a - b) >>> 63
def same (a b : BitVec 64) : BitVec 64 := (a ^^^ b ||| -(a ^^^ b)) >>> 63 ^^^ 1#64
def pick (c a b : BitVec 64) : BitVec 64 := a &&& -(c &&& 1#64) ||| b &&& ~~~(-(c &&& 1#64))
def below (a b : BitVec 64) : BitVec 64 := less (a ^^^ 9223372036854775808#64) (b ^^^ 9223372036854775808#64)

theorem shr63 (x : BitVec 64) : x >>> 63 = if x.msb then 1#64 else 0#64 := by
  apply BitVec.eq_of_toNat_eq
  rw [BitVec.toNat_ushiftRight, Nat.shiftRight_eq_div_pow]
  have := x.isLt
  have hm := BitVec.msb_eq_decide x
  by_cases h : x.msb = true
  · rw [if_pos h]; rw [h] at hm; simp at hm; simp; omega
  · rw [if_neg h]; simp at h; rw [h] at hm; simp at hm; simp; omega
theorem less_eq (a b : BitVec 64) : less a b = if a < b then 1#64 else 0#64 := by
  unfold less
  rw [shr63]
  congr 1
  simp only [BitVec.msb_or, BitVec.msb_and, BitVec.msb_not, eq_iff_iff]
  rw [BitVec.msb_eq_decide, BitVec.msb_eq_decide, BitVec.msb_eq_decide, BitVec.toNat_sub, BitVec.lt_def]
  have ha := a.isLt
  have hb := b.isLt
  simp only [Bool.or_eq_true, Bool.and_eq_true, Bool.not_eq_true', decide_eq_false_iff_not, decide_eq_true_eq]
  omega
theorem same_eq (a b : BitVec 64) : same a b = if a = b then 1#64 else 0#64 := by
  unfold same
  rw [shr63]
  by_cases h : a = b
  · subst h; simp
  · rw [if_neg h]
    have hx : a ^^^ b ≠ 0#64 := by
      intro e
      exact h (by simpa using BitVec.xor_eq_zero_iff.1 e)
    have hm : (a ^^^ b ||| -(a ^^^ b)).msb = true := by
      generalize a ^^^ b = x at hx
      rw [BitVec.msb_or, BitVec.msb_eq_decide, BitVec.msb_eq_decide, BitVec.toNat_neg]
      have := x.isLt
      have h0 : x.toNat ≠ 0 := fun e => hx (BitVec.eq_of_toNat_eq (by simpa using e))
      simp only [Bool.or_eq_true, decide_eq_true_eq]
      omega
    rw [if_pos hm]; rfl
theorem pick_eq (c a b : BitVec 64) : pick c a b = if c &&& 1#64 = 1#64 then a else b := by
  unfold pick
  have h : c &&& 1#64 = 0#64 ∨ c &&& 1#64 = 1#64 := by
    have h1 : (c &&& 1#64).toNat < 2 := by
      rw [BitVec.toNat_and]
      exact Nat.lt_of_le_of_lt Nat.and_le_right (by decide)
    have h2 : (c &&& 1#64).toNat = 0 ∨ (c &&& 1#64).toNat = 1 := by omega
    rcases h2 with h2 | h2
    · exact .inl (BitVec.eq_of_toNat_eq h2)
    · exact .inr (BitVec.eq_of_toNat_eq h2)
  rcases h with h | h
  · rw [h]; simp; exact BitVec.and_allOnes
  · rw [h]; simp; exact BitVec.and_allOnes
theorem add_or_xor (x t : BitVec 64) (h : x &&& t = 0#64) : x ^^^ t = x + t := by
  rw [BitVec.add_eq_or_of_and_eq_zero x t h]
  apply BitVec.eq_of_getLsbD_eq
  intro i hi
  have h1 : (x &&& t).getLsbD i = false := by rw [h]; simp
  rw [BitVec.getLsbD_and] at h1
  rw [BitVec.getLsbD_xor, BitVec.getLsbD_or]
  cases hx : x.getLsbD i <;> cases ht : t.getLsbD i <;> simp_all
theorem turn_add (x : BitVec 64) : x ^^^ 9223372036854775808#64 = x + 9223372036854775808#64 := by
  by_cases h : x &&& 9223372036854775808#64 = 0#64
  · exact add_or_xor x _ h
  · have h2 : (x ^^^ 9223372036854775808#64) &&& 9223372036854775808#64 = 0#64 := by
      rw [show 9223372036854775808#64 = BitVec.twoPow 64 63 from rfl] at h ⊢
      rw [BitVec.and_twoPow] at h ⊢
      rw [BitVec.getLsbD_xor]
      have hx : x.getLsbD 63 = true := by
        cases hx : x.getLsbD 63
        · rw [hx] at h; simp at h
        · rfl
      rw [hx]; decide
    have h3 := add_or_xor _ _ h2
    have h4 : x = (x ^^^ 9223372036854775808#64) + 9223372036854775808#64 := by
      rw [← h3, BitVec.xor_assoc]; simp
    have h5 : x + 9223372036854775808#64 = (x ^^^ 9223372036854775808#64) + 9223372036854775808#64 + 9223372036854775808#64 := by rw [← h4]
    rw [h5, BitVec.add_assoc]; simp
theorem turn_lt (a b : BitVec 64) : (a ^^^ 9223372036854775808#64 < b ^^^ 9223372036854775808#64) ↔ a.slt b = true := by
  rw [turn_add, turn_add, BitVec.lt_def, BitVec.toNat_add, BitVec.toNat_add, BitVec.slt, decide_eq_true_eq, BitVec.toInt_eq_toNat_cond, BitVec.toInt_eq_toNat_cond]
  have ha := a.isLt
  have hb := b.isLt
  simp only [BitVec.toNat_ofNat]
  split <;> split <;> omega
theorem below_eq (a b : BitVec 64) : below a b = if a.slt b then 1#64 else 0#64 := by
  unfold below
  rw [less_eq]
  congr 1
  simp [turn_lt]
end Go.Proofs.Ytemjinkdfjoicaa.CtPure
