/- The walk of the law ChachaQuarterBack. No conditions. -/
import Derived.Test.YtchfhndpbfohhaaChacha
import Derived.Test.YtchfhndpbfohhaaMem
namespace Go.Proofs.Ytchfhndpbfohhaa
set_option linter.unusedVariables false
set_option linter.unusedSimpArgs false
open Go.RowKit Bv
section
attribute [local go_sem high] shrl32 shll32
attribute [local go_sem] or32
theorem right7 (x : BitVec 32) (w : World) : Calls Try.prog 33 #[b32 x, .int .i64 7] w fun e w' => e = .returned (b32 (ror x 7)) ∧ w = w' := by
  go_enter Try.func33, Try.ntmps33
  go_wp2
  go_ret
  exact ⟨rfl, rfl⟩
theorem right8 (x : BitVec 32) (w : World) : Calls Try.prog 33 #[b32 x, .int .i64 8] w fun e w' => e = .returned (b32 (ror x 8)) ∧ w = w' := by
  go_enter Try.func33, Try.ntmps33
  go_wp2
  go_ret
  exact ⟨rfl, rfl⟩
theorem right12 (x : BitVec 32) (w : World) : Calls Try.prog 33 #[b32 x, .int .i64 12] w fun e w' => e = .returned (b32 (ror x 12)) ∧ w = w' := by
  go_enter Try.func33, Try.ntmps33
  go_wp2
  go_ret
  exact ⟨rfl, rfl⟩
theorem right16 (x : BitVec 32) (w : World) : Calls Try.prog 33 #[b32 x, .int .i64 16] w fun e w' => e = .returned (b32 (ror x 16)) ∧ w = w' := by
  go_enter Try.func33, Try.ntmps33
  go_wp2
  go_ret
  exact ⟨rfl, rfl⟩
end
attribute [local go_sem] add32 sub32 xor32 or32 n32_beq
theorem four_of (xs : List (BitVec 32)) (h : xs.length = 4) : ∃ q : Four, xs = [q.a, q.b, q.c, q.d] := by
  match xs, h with
  | [a, b, c, d], _ => exact ⟨⟨a, b, c, d⟩, rfl⟩
theorem ChachaQuarterBack_walk (xs : List (BitVec 32)) (w : World) (h : xs.length = 4) :
    Calls Try.prog 9 #[.agg (xs.map b32).toArray] w fun e w' => e = .returned (.bool true) ∧ Below w.heap.size w w' := by
  obtain ⟨q, rfl⟩ := four_of xs h
  clear h
  have d0 := Lib.hid awake05
  have q0 := Lib.hid (quarter_any q)
  have r7 := Lib.hid right7; have r8 := Lib.hid right8; have r12 := Lib.hid right12; have r16 := Lib.hid right16
  obtain ⟨e1, e2, e3, e4⟩ := quarter_back q
  rw [e2] at e1
  try dsimp only at e1 e2 e3 e4
  generalize quarter q = z at *
  show Calls Try.prog 9 #[.agg #[b32 q.a, b32 q.b, b32 q.c, b32 q.d]] w _
  go_enter Try.func9, Try.ntmps9
  go_wp2_with (first | ((with_reducible refine (d0.out _).mono ?_); rintro e w' ⟨rfl, rfl⟩) | ((with_reducible refine (q0.out _).mono ?_); rintro e w' ⟨rfl, rfl⟩) | ((with_reducible refine (r7.out _ _).mono ?_); rintro e w' ⟨rfl, rfl⟩) | ((with_reducible refine (r8.out _ _).mono ?_); rintro e w' ⟨rfl, rfl⟩) | ((with_reducible refine (r12.out _ _).mono ?_); rintro e w' ⟨rfl, rfl⟩) | ((with_reducible refine (r16.out _ _).mono ?_); rintro e w' ⟨rfl, rfl⟩))
  go_ret
  exact ⟨rfl, (Below.refl _ _).alloc (Nat.le_refl _) _⟩
end Go.Proofs.Ytchfhndpbfohhaa
