/- What the quarter rounds answer. No conditions. -/
import Derived.Test.YtchfhndpbfohhaaProg
import Derived.Test.YtchfhndpbfohhaaCcPure
import Derived.Test.YtchfhndpbfohhaaRd
import Derived.Outline
import Derived.KernelRfl
namespace Go.Proofs.Ytchfhndpbfohhaa
set_option linter.unusedVariables false
set_option linter.unusedSimpArgs false
open Go.RowKit Bv
attribute [local go_sem] add32 sub32 xor32 or32 n32_beq shlv32 shrv32

theorem rotl_any (x : BitVec 32) (k : Int) (s : Nat) (hs : s < 32) (hk : k % 32 = s) (w : World) :
    Calls Try.prog 44 #[b32 x, .int .i64 k] w fun e w' => e = .returned (b32 (rol x s)) ∧ w = w' := by
  have h31 := and31 k s hs hk
  clear hk
  go_enter Try.func44, Try.ntmps44
  go_wp2
  go_ret
  exact ⟨rfl, rfl⟩
theorem quarter_any (q : Four) (w : World) :
    Calls Try.prog 32 #[b32 q.a, b32 q.b, b32 q.c, b32 q.d] w fun e w' =>
      e = .returned (.tuple #[b32 (quarter q).a, b32 (quarter q).b, b32 (quarter q).c, b32 (quarter q).d]) ∧ w = w' := by
  have r16 := Lib.hid (fun x w => rotl_any x 16 16 (by omega) (by decide) w)
  have r12 := Lib.hid (fun x w => rotl_any x 12 12 (by omega) (by decide) w)
  have r8 := Lib.hid (fun x w => rotl_any x 8 8 (by omega) (by decide) w)
  have r7 := Lib.hid (fun x w => rotl_any x 7 7 (by omega) (by decide) w)
  go_enter Try.func32, Try.ntmps32
  go_wp2_with (first | ((with_reducible refine (r16.out _ _).mono ?_); rintro e w' ⟨rfl, rfl⟩) | ((with_reducible refine (r12.out _ _).mono ?_); rintro e w' ⟨rfl, rfl⟩) | ((with_reducible refine (r8.out _ _).mono ?_); rintro e w' ⟨rfl, rfl⟩) | ((with_reducible refine (r7.out _ _).mono ?_); rintro e w' ⟨rfl, rfl⟩))
  exact bodyPost_ret (v := .tuple #[b32 (quarter q).a, b32 (quarter q).b, b32 (quarter q).c, b32 (quarter q).d]) (by simp [results, Try.results32, go_sem]; exact ⟨rfl, rfl, rfl, rfl⟩) rfl ⟨rfl, rfl⟩
theorem awake05 (w : World) : Calls Try.prog 34 #[] w fun e w' => e = .returned (.bool true) ∧ w = w' := by
  have c1 : Hid (∀ w, Calls Try.prog 32 #[.int .u32 286331153, .int .u32 16909060, .int .u32 2609737539, .int .u32 19088743] w fun e w' =>
      e = .returned (.tuple #[.int .u32 3928658676, .int .u32 3407673550, .int .u32 1166100270, .int .u32 1484899515]) ∧ w = w') := by
    refine Lib.hid (fun w => ?_)
    have h := quarter_any ⟨286331153#32, 16909060#32, 2609737539#32, 19088743#32⟩ w
    have a1 : b32 (quarter ⟨286331153#32, 16909060#32, 2609737539#32, 19088743#32⟩).a = .int .u32 3928658676 := congrArg (Value.int .u32) (show n32 (quarter ⟨286331153#32, 16909060#32, 2609737539#32, 19088743#32⟩).a = 3928658676 by decide +kernel)
    have a2 : b32 (quarter ⟨286331153#32, 16909060#32, 2609737539#32, 19088743#32⟩).b = .int .u32 3407673550 := congrArg (Value.int .u32) (show n32 (quarter ⟨286331153#32, 16909060#32, 2609737539#32, 19088743#32⟩).b = 3407673550 by decide +kernel)
    have a3 : b32 (quarter ⟨286331153#32, 16909060#32, 2609737539#32, 19088743#32⟩).c = .int .u32 1166100270 := congrArg (Value.int .u32) (show n32 (quarter ⟨286331153#32, 16909060#32, 2609737539#32, 19088743#32⟩).c = 1166100270 by decide +kernel)
    have a4 : b32 (quarter ⟨286331153#32, 16909060#32, 2609737539#32, 19088743#32⟩).d = .int .u32 1484899515 := congrArg (Value.int .u32) (show n32 (quarter ⟨286331153#32, 16909060#32, 2609737539#32, 19088743#32⟩).d = 1484899515 by decide +kernel)
    rw [a1, a2, a3, a4] at h
    exact h
  go_enter Try.func34, Try.ntmps34
  go_wp2_with ((with_reducible refine (c1.out _).mono ?_); rintro e w' ⟨rfl, rfl⟩)
  go_ret
  exact ⟨rfl, rfl⟩
end Go.Proofs.Ytchfhndpbfohhaa
