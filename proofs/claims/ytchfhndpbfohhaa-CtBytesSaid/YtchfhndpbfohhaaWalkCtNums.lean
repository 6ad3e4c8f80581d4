/- The walks of the laws on numbers of chapter 01. No conditions. -/
import Derived.Test.YtchfhndpbfohhaaCt
namespace Go.Proofs.Ytchfhndpbfohhaa
open Go.RowKit Bv
attribute [local go_sem] add64 sub64 neg64 in64 and64 or64 xor64 andNot64 andl64 orl64 xorl64 i64_u64 n64_beq
attribute [local go_sem high] not64 shrl64

theorem awake01 (w : World) : Calls Try.prog 14 #[] w fun e w' => e = .returned (.bool true) ∧ w = w' := by
  have c1 : ∀ w, Calls Try.prog 16 #[.int .u64 1, .int .u64 2] w fun e w' => e = .returned (.int .u64 1) ∧ w = w' := less_any 1#64 2#64
  have c2 : ∀ w, Calls Try.prog 16 #[.int .u64 2, .int .u64 1] w fun e w' => e = .returned (.int .u64 0) ∧ w = w' := less_any 2#64 1#64
  have c3 : ∀ w, Calls Try.prog 15 #[.int .u64 0, .int .u64 5, .int .u64 6] w fun e w' => e = .returned (.int .u64 6) ∧ w = w' := pick_any 0#64 5#64 6#64
  have d1 := Lib.hid c1; have d2 := Lib.hid c2; have d3 := Lib.hid c3
  clear c1 c2 c3
  go_enter Try.func14, Try.ntmps14
  go_wp2_with (first | ((with_reducible refine (d1.out _).mono ?_); rintro e w' ⟨rfl, rfl⟩) | ((with_reducible refine (d2.out _).mono ?_); rintro e w' ⟨rfl, rfl⟩) | ((with_reducible refine (d3.out _).mono ?_); rintro e w' ⟨rfl, rfl⟩))
  go_ret
  exact ⟨rfl, rfl⟩
/-- Less answers 1, answers 0; Same likewise. -/
theorem less_yes {a b : BitVec 64} (h : a < b) (w : World) : Calls Try.prog 16 #[b64 a, b64 b] w fun e w' => e = .returned (.int .u64 1) ∧ w = w' := by
  have := less_any a b w
  rw [CtPure.less_eq, if_pos h] at this
  exact this
theorem less_no {a b : BitVec 64} (h : ¬ a < b) (w : World) : Calls Try.prog 16 #[b64 a, b64 b] w fun e w' => e = .returned (.int .u64 0) ∧ w = w' := by
  have := less_any a b w
  rw [CtPure.less_eq, if_neg h] at this
  exact this
theorem same_yes (a : BitVec 64) (w : World) : Calls Try.prog 17 #[b64 a, b64 a] w fun e w' => e = .returned (.int .u64 1) ∧ w = w' := by
  have := same_any a a w
  rw [CtPure.same_eq, if_pos rfl] at this
  exact this
theorem same_no {a b : BitVec 64} (h : ¬ a = b) (w : World) : Calls Try.prog 17 #[b64 a, b64 b] w fun e w' => e = .returned (.int .u64 0) ∧ w = w' := by
  have := same_any a b w
  rw [CtPure.same_eq, if_neg h] at this
  exact this
theorem pick_of_yes (a b : BitVec 64) (w : World) : Calls Try.prog 15 #[.int .u64 1, b64 a, b64 b] w fun e w' => e = .returned (b64 a) ∧ w = w' := by
  have := pick_any 1#64 a b w
  rw [CtPure.pick_eq] at this
  exact this
theorem pick_of_no (a b : BitVec 64) (w : World) : Calls Try.prog 15 #[.int .u64 0, b64 a, b64 b] w fun e w' => e = .returned (b64 b) ∧ w = w' := by
  have := pick_any 0#64 a b w
  rw [CtPure.pick_eq] at this
  exact this

theorem ref_less (a b : BitVec 64) (w : World) :
    Calls Try.prog 19 #[b64 a, b64 b] w fun e w' => e = .returned (b64 (CtPure.less a b)) ∧ w = w' := by
  have hl := CtPure.less_eq a b
  by_cases h : a < b
  · rw [if_pos h] at hl
    rw [hl]
    have h' : n64 a < n64 b := (n64_lt a b).2 h
    clear hl
    go_enter Try.func19, Try.ntmps19
    go_wp2
    go_ret
    exact ⟨rfl, rfl⟩
  · rw [if_neg h] at hl
    rw [hl]
    have h' : ¬ n64 a < n64 b := fun e => h ((n64_lt a b).1 e)
    clear hl
    go_enter Try.func19, Try.ntmps19
    go_wp2
    go_ret
    exact ⟨rfl, rfl⟩
theorem ref_below (a b : BitVec 64) (w : World) :
    Calls Try.prog 20 #[.int .i64 (i64 a), .int .i64 (i64 b)] w fun e w' => e = .returned (b64 (CtPure.below a b)) ∧ w = w' := by
  have hl := CtPure.below_eq a b
  by_cases h : a.slt b = true
  · rw [if_pos h] at hl
    rw [hl]
    have h' : i64 a < i64 b := (i64_lt a b).2 h
    clear hl
    go_enter Try.func20, Try.ntmps20
    go_wp2
    go_ret
    exact ⟨rfl, rfl⟩
  · rw [if_neg h] at hl
    rw [hl]
    have h' : ¬ i64 a < i64 b := fun e => h ((i64_lt a b).1 e)
    clear hl
    go_enter Try.func20, Try.ntmps20
    go_wp2
    go_ret
    exact ⟨rfl, rfl⟩
theorem ref_same (a b : BitVec 64) (w : World) :
    Calls Try.prog 21 #[b64 a, b64 b] w fun e w' => e = .returned (b64 (CtPure.same a b)) ∧ w = w' := by
  have hl := CtPure.same_eq a b
  by_cases h : a = b
  · subst h
    rw [if_pos rfl] at hl
    rw [hl]
    clear hl
    go_enter Try.func21, Try.ntmps21
    go_wp2
    go_ret
    exact ⟨rfl, rfl⟩
  · rw [if_neg h] at hl
    rw [hl]
    have h' : (a == b) = false := by simpa using h
    clear hl h
    go_enter Try.func21, Try.ntmps21
    go_wp2
    go_ret
    exact ⟨rfl, rfl⟩
theorem ref_pick (c a b : BitVec 64) (w : World) :
    Calls Try.prog 22 #[b64 c, b64 a, b64 b] w fun e w' => e = .returned (b64 (CtPure.pick c a b)) ∧ w = w' := by
  have hl := CtPure.pick_eq c a b
  by_cases h : c &&& 1#64 = 1#64
  · rw [if_pos h] at hl
    rw [hl]
    have h' : (n64 (c &&& 1#64) == 1) = true := by rw [h]; rfl
    clear hl h
    go_enter Try.func22, Try.ntmps22
    go_wp2
    go_ret
    exact ⟨rfl, rfl⟩
  · rw [if_neg h] at hl
    rw [hl]
    have h' : (n64 (c &&& 1#64) == 1) = false := by
      rw [show (1 : Int) = n64 1#64 from rfl, n64_beq]; simpa using h
    clear hl h
    go_enter Try.func22, Try.ntmps22
    go_wp2
    go_ret
    exact ⟨rfl, rfl⟩
theorem order1 (a b c : BitVec 64) (h1 : b < a) (h2 : ¬ a < b) (h3 : ¬ a = b) (w : World) : Calls Try.prog 4 #[b64 a, b64 b, b64 c] w fun e w' => e = .returned (.bool true) ∧ w = w' := by
  have d0 := Lib.hid awake01
  have d1 := Lib.hid (@less_no _ _ h2)
  have d2 := Lib.hid (@less_yes _ _ h1)
  have d3 := Lib.hid (@same_no _ _ h3)
  clear h1 h2 h3
  go_enter Try.func4, Try.ntmps4
  go_wp2_with (first | ((with_reducible refine (d0.out _).mono ?_); rintro e w' ⟨rfl, rfl⟩) | ((with_reducible refine (d1.out _).mono ?_); rintro e w' ⟨rfl, rfl⟩) | ((with_reducible refine (d2.out _).mono ?_); rintro e w' ⟨rfl, rfl⟩) | ((with_reducible refine (d3.out _).mono ?_); rintro e w' ⟨rfl, rfl⟩))
  go_ret
  exact ⟨rfl, rfl⟩
theorem order3 (a b c : BitVec 64) (h1 : a < b) (h2 : ¬ b < a) (h3 : ¬ a = b) (h4 : ¬ b < c) (w : World) : Calls Try.prog 4 #[b64 a, b64 b, b64 c] w fun e w' => e = .returned (.bool true) ∧ w = w' := by
  have d0 := Lib.hid awake01
  have d1 := Lib.hid (@less_yes _ _ h1)
  have d2 := Lib.hid (@less_no _ _ h2)
  have d3 := Lib.hid (@same_no _ _ h3)
  have d4 := Lib.hid (@less_no _ _ h4)
  clear h1 h2 h3 h4
  go_enter Try.func4, Try.ntmps4
  go_wp2_with (first | ((with_reducible refine (d0.out _).mono ?_); rintro e w' ⟨rfl, rfl⟩) | ((with_reducible refine (d1.out _).mono ?_); rintro e w' ⟨rfl, rfl⟩) | ((with_reducible refine (d2.out _).mono ?_); rintro e w' ⟨rfl, rfl⟩) | ((with_reducible refine (d3.out _).mono ?_); rintro e w' ⟨rfl, rfl⟩) | ((with_reducible refine (d4.out _).mono ?_); rintro e w' ⟨rfl, rfl⟩))
  go_ret
  exact ⟨rfl, rfl⟩
theorem order4 (a b c : BitVec 64) (h1 : a < b) (h2 : ¬ b < a) (h3 : ¬ a = b) (h4 : b < c) (h5 : a < c) (w : World) : Calls Try.prog 4 #[b64 a, b64 b, b64 c] w fun e w' => e = .returned (.bool true) ∧ w = w' := by
  have d0 := Lib.hid awake01
  have d1 := Lib.hid (@less_yes _ _ h1)
  have d2 := Lib.hid (@less_no _ _ h2)
  have d3 := Lib.hid (@same_no _ _ h3)
  have d4 := Lib.hid (@less_yes _ _ h4)
  have d5 := Lib.hid (@less_yes _ _ h5)
  clear h1 h2 h3 h4 h5
  go_enter Try.func4, Try.ntmps4
  go_wp2_with (first | ((with_reducible refine (d0.out _).mono ?_); rintro e w' ⟨rfl, rfl⟩) | ((with_reducible refine (d1.out _).mono ?_); rintro e w' ⟨rfl, rfl⟩) | ((with_reducible refine (d2.out _).mono ?_); rintro e w' ⟨rfl, rfl⟩) | ((with_reducible refine (d3.out _).mono ?_); rintro e w' ⟨rfl, rfl⟩) | ((with_reducible refine (d4.out _).mono ?_); rintro e w' ⟨rfl, rfl⟩) | ((with_reducible refine (d5.out _).mono ?_); rintro e w' ⟨rfl, rfl⟩))
  go_ret
  exact ⟨rfl, rfl⟩
theorem order2 (a c : BitVec 64) (h2 : ¬ a < a) (w : World) : Calls Try.prog 4 #[b64 a, b64 a, b64 c] w fun e w' => e = .returned (.bool true) ∧ w = w' := by
  have d0 := Lib.hid awake01
  have d1 := Lib.hid (@less_no _ _ h2)
  have d2 := Lib.hid (same_yes a)
  clear h2
  go_enter Try.func4, Try.ntmps4
  go_wp2_with (first | ((with_reducible refine (d0.out _).mono ?_); rintro e w' ⟨rfl, rfl⟩) | ((with_reducible refine (d1.out _).mono ?_); rintro e w' ⟨rfl, rfl⟩) | ((with_reducible refine (d2.out _).mono ?_); rintro e w' ⟨rfl, rfl⟩))
  go_ret
  exact ⟨rfl, rfl⟩
theorem CtOrder_walk (a b c : BitVec 64) (w : World) : Calls Try.prog 4 #[b64 a, b64 b, b64 c] w fun e w' => e = .returned (.bool true) ∧ Below w.heap.size w w' := by
  have key : Calls Try.prog 4 #[b64 a, b64 b, b64 c] w fun e w' => e = .returned (.bool true) ∧ w = w' := by
    by_cases h : a = b
    · subst h; exact order2 a c (by simp) w
    · by_cases h1 : a < b
      · have h2 : ¬ b < a := by rw [BitVec.lt_def] at *; omega
        by_cases h3 : b < c
        · exact order4 a b c h1 h2 h h3 (by rw [BitVec.lt_def] at *; omega) w
        · exact order3 a b c h1 h2 h h3 w
      · have h2 : b < a := by
          have : a.toNat ≠ b.toNat := fun e => h (BitVec.eq_of_toNat_eq e)
          rw [BitVec.lt_def] at *; omega
        exact order1 a b c h2 h1 h w
  exact key.mono fun e w' ⟨he, hw⟩ => ⟨he, hw ▸ Below.refl _ _⟩
theorem CtSigned_walk (a b : BitVec 64) (w : World) : Calls Try.prog 5 #[.int .i64 (i64 a), .int .i64 (i64 b)] w fun e w' => e = .returned (.bool true) ∧ Below w.heap.size w w' := by
  have d0 := Lib.hid awake01
  have d1 := Lib.hid (below_any a b)
  have d2 : Hid (∀ w, Calls Try.prog 18 #[.int .i64 (i64 a), .int .i64 (i64 a)] w fun e w' => e = .returned (.int .u64 0) ∧ w = w') := by
    refine Lib.hid (fun w => ?_)
    have := below_any a a w
    rw [CtPure.below_eq, if_neg (by rw [BitVec.slt]; simp)] at this
    exact this
  have d3 := Lib.hid (fun w => less_any (a ^^^ 9223372036854775808#64) (b ^^^ 9223372036854775808#64) w)
  have key : Calls Try.prog 5 #[.int .i64 (i64 a), .int .i64 (i64 b)] w fun e w' => e = .returned (.bool true) ∧ w = w' := by
    go_enter Try.func5, Try.ntmps5
    go_wp2_with (first | ((with_reducible refine (d0.out _).mono ?_); rintro e w' ⟨rfl, rfl⟩) | ((with_reducible refine (d2.out _).mono ?_); rintro e w' ⟨rfl, rfl⟩) | ((with_reducible refine (d3.out _).mono ?_); rintro e w' ⟨rfl, rfl⟩) | ((with_reducible refine (d1.out _).mono ?_); rintro e w' ⟨rfl, rfl⟩; unfold CtPure.below))
    go_ret
    exact ⟨rfl, rfl⟩
  exact key.mono fun e w' ⟨he, hw⟩ => ⟨he, hw ▸ Below.refl _ _⟩
theorem CtNumbers_walk (a b c x y : BitVec 64) (w : World) : Calls Try.prog 6 #[b64 a, b64 b, b64 c, .int .i64 (i64 x), .int .i64 (i64 y)] w fun e w' => e = .returned (.bool true) ∧ Below w.heap.size w w' := by
  have d0 := Lib.hid awake01
  have d1 := Lib.hid (less_any a b)
  have d2 := Lib.hid (ref_less a b)
  have d3 := Lib.hid (below_any x y)
  have d4 := Lib.hid (ref_below x y)
  have d5 := Lib.hid (same_yes a)
  have d6 := Lib.hid (same_any a b)
  have d7 := Lib.hid (ref_same a b)
  have d8 := Lib.hid (pick_any c a b)
  have d9 := Lib.hid (ref_pick c a b)
  have key : Calls Try.prog 6 #[b64 a, b64 b, b64 c, .int .i64 (i64 x), .int .i64 (i64 y)] w fun e w' => e = .returned (.bool true) ∧ w = w' := by
    go_enter Try.func6, Try.ntmps6
    go_wp2_with (first | ((with_reducible refine (d0.out _).mono ?_); rintro e w' ⟨rfl, rfl⟩) | ((with_reducible refine (d1.out _).mono ?_); rintro e w' ⟨rfl, rfl⟩) | ((with_reducible refine (d2.out _).mono ?_); rintro e w' ⟨rfl, rfl⟩) | ((with_reducible refine (d3.out _).mono ?_); rintro e w' ⟨rfl, rfl⟩) | ((with_reducible refine (d4.out _).mono ?_); rintro e w' ⟨rfl, rfl⟩) | ((with_reducible refine (d5.out _).mono ?_); rintro e w' ⟨rfl, rfl⟩) | ((with_reducible refine (d6.out _).mono ?_); rintro e w' ⟨rfl, rfl⟩) | ((with_reducible refine (d7.out _).mono ?_); rintro e w' ⟨rfl, rfl⟩) | ((with_reducible refine (d8.out _).mono ?_); rintro e w' ⟨rfl, rfl⟩) | ((with_reducible refine (d9.out _).mono ?_); rintro e w' ⟨rfl, rfl⟩))
    go_ret
    exact ⟨rfl, rfl⟩
  exact key.mono fun e w' ⟨he, hw⟩ => ⟨he, hw ▸ Below.refl _ _⟩
end Go.Proofs.Ytchfhndpbfohhaa
