/- Proved: 'domino/dominolaw21.LetterPacks' returns true whatever comes in, and its arguments read behind the call as they read before it. No conditions. -/
import Derived.Test.YtlplpmkdebemnaaRows
import Derived.Test.YtlplpmkdebemnaaRd
import Derived.Test.YtlplpmkdebemnaaOpen
import Derived.Test.YtlplpmkdebemnaaOpenS
import Derived.Test.YtlplpmkdebemnaaGLLeP
import Derived.WalkKit
import Derived.ProofKit
import Derived.OpenShut
import Derived.ShutString
import Derived.ChangeOld
import Derived.Below
namespace Go.Proofs.Ytlplpmkdebemnaa.letterPacks
open Fw Go.ChangeShapes Go.WideShapes Go.ChangeAt Go.RowKit Bv
open Go.ChangeMaps (open_string shut_string)
set_option linter.unusedVariables false
theorem own : ownKnob Try.prog.godebug = none := by kernel_rfl
theorem laidOut : laidOutB Try.prog = true := by kernel_rfl
set_option maxRecDepth 100000 in
theorem lifted (os : Os) (started : os.Started) (H : Type) (enc : TypeId × Value → H) :
    ReturnsInHanded {} Try.checked os 4 .any (Rows.letterPacksSpec.pre6 enc Try.prog Try.f4 Rows.letterPacksRow.domain false) (Rows.letterPacksSpec.post enc Try.prog Try.f4 false true false false) := by
  refine returnsInHanded_of_change (C := Try.checked) own started (by kernel_rfl) Try.func4
    (ChangeSpec.witness6 (enc := enc) (C := Try.checked) false ⟨#[], #[.agg #[.int .i64 0, .int .i64 0, .int .i64 0, .int .u64 0, .int .i64 0, .int .u64 0, .int .u64 0, .int .u64 0], .slice none 0 0], []⟩ 8 (by kernel_rfl) (by kernel_rfl) (by kernel_rfl) (by kernel_rfl)) ?_
  intro W base args ds gs before hval0 hW hcnd _
  have hval : ∀ (j : Nat) t v, Try.f4.params[j]? = some t → args[j]? = some v → Value.okWide Try.prog W .any base t v := hval0
  have hW' := hW
  obtain ⟨p, q, hA0, hV, rfl, hfz, hnd⟩ := hW
  have hA : DataW.TrodAll enc Try.prog W 0 (fun _ => true) true Try.f4.params.toList args.toList ds p := hA0
  rw [Try.params4] at hA hval
  obtain ⟨v0, vs0, d0, ds0, p0, q0, hargs, rfl, rfl, h0, r0⟩ := trodAll_cons hA
  obtain ⟨v1, vs1, d1, ds1, p1, q1, rfl, rfl, rfl, h1, r1⟩ := trodAll_cons r0
  obtain ⟨rfl, rfl, rfl⟩ := trodAll_nil r1
  obtain rfl : args = #[v0, v1] := by cases args; simp_all
  obtain ⟨rfl, rfl⟩ := trodVars_none hV
  have k0 := h0
  have lt0 : ∀ x ∈ p0, x.block < W.heap.size := by obtain ⟨m, hm⟩ := k0; exact DataW.trod_lt m _ _ _ hm
  obtain ⟨fu0, hf0⟩ := h0
  obtain ⟨cs0, rfl, hl0, hs0⟩ := open_struct Try.underlying33 (hval 0 33 v0 rfl rfl) hf0
  have hl0 := hl0.trans (show _ = 8 by kernel_rfl)
  obtain ⟨c0_0, r0_0, rfl, hl0_0⟩ := cons_of hl0
  obtain ⟨c0_1, r0_1, rfl, hl0_1⟩ := cons_of hl0_0
  obtain ⟨c0_2, r0_2, rfl, hl0_2⟩ := cons_of hl0_1
  obtain ⟨c0_3, r0_3, rfl, hl0_3⟩ := cons_of hl0_2
  obtain ⟨c0_4, r0_4, rfl, hl0_4⟩ := cons_of hl0_3
  obtain ⟨c0_5, r0_5, rfl, hl0_5⟩ := cons_of hl0_4
  obtain ⟨c0_6, r0_6, rfl, hl0_6⟩ := cons_of hl0_5
  obtain ⟨c0_7, r0_7, rfl, hl0_7⟩ := cons_of hl0_6
  obtain rfl := List.length_eq_zero_iff.1 hl0_7
  obtain ⟨x0_0, rfl, w0_0⟩ := field_int hs0 0 rfl Try.underlying3 (by kernel_rfl) rfl
  obtain ⟨x0_1, rfl, w0_1⟩ := field_int hs0 1 rfl Try.underlying3 (by kernel_rfl) rfl
  obtain ⟨x0_2, rfl, w0_2⟩ := field_int hs0 2 rfl Try.underlying3 (by kernel_rfl) rfl
  obtain ⟨z0_3, rfl, w0_3⟩ := field_int hs0 3 rfl Try.underlying30 (by kernel_rfl) rfl
  obtain ⟨x0_3, rfl⟩ := ex64 w0_3
  obtain ⟨x0_4, rfl, w0_4⟩ := field_int hs0 4 rfl Try.underlying3 (by kernel_rfl) rfl
  obtain ⟨z0_5, rfl, w0_5⟩ := field_int hs0 5 rfl Try.underlying30 (by kernel_rfl) rfl
  obtain ⟨x0_5, rfl⟩ := ex64 w0_5
  obtain ⟨z0_6, rfl, w0_6⟩ := field_arr hs0 6 0 rfl (by decide) Try.underlying31 Try.underlying30 (by kernel_rfl) (by kernel_rfl) rfl
  obtain ⟨x0_6, rfl⟩ := ex64 w0_6
  obtain ⟨z0_7, rfl, w0_7⟩ := field_arr hs0 6 1 rfl (by decide) Try.underlying31 Try.underlying30 (by kernel_rfl) (by kernel_rfl) rfl
  obtain ⟨x0_7, rfl⟩ := ex64 w0_7
  clear hs0 hf0
  have k1 := h1
  have lt1 : ∀ x ∈ p1, x.block < W.heap.size := by obtain ⟨m, hm⟩ := k1; exact DataW.trod_lt m _ _ _ hm
  obtain ⟨A1, len1, cap1, rfl⟩ := okWide_slice Try.underlying23 (hval 1 23 v1 rfl rfl)
  obtain ⟨fu1, hf1⟩ := h1
  obtain ⟨x1, l1, w1⟩ := open_rd n8 all8 Try.underlying23 Try.underlying5 (by kernel_rfl) hf1
  clear hA0 hval0
  have fin := letterPacks_f x0_0 x0_1 x0_2 x0_3 x0_4 x0_5 x0_6 x0_7 x1 A1 len1 cap1 W (hok_cons w1 (hok_nil W)) l1
  refine (law_of_ret fin).mono fun e W' ⟨he, bel⟩ => ?_
  subst he
  exact ⟨_, rfl, _, _, _, [], _, [], hW', trodAll_mk1 (shut_bool Try.underlying4 _), (trodAll_cons_mk (Below.trod laidOut (by kernel_rfl) (of_decide_eq_true (by kernel_rfl)) k0 bel lt0) (trodAll_cons_mk (Below.trod laidOut (by kernel_rfl) (of_decide_eq_true (by kernel_rfl)) k1 bel lt1) trodAll_mk0)), rfl, bel.frame _, fun h => by cases h⟩
theorem over : Rows.letterPacksRow.holds Try.pinned (OpenSpec.ofChange Rows.letterPacksSpec) :=
  OpenClaim.holds_of_wide 4 Try.f4 rfl rfl rfl rfl rfl rfl rfl ⟨rfl, rfl, rfl, rfl, rfl⟩ rfl rfl rfl rfl rfl (by kernel_rfl) Try.func4 (by kernel_rfl)
    (of_decide_eq_true (by kernel_rfl)) (by unfold Func.isWrapper; first | (rw [if_pos (by decide +kernel)]; kernel_rfl) | (rw [if_neg (by decide +kernel)]; exact ⟨rfl, rfl⟩))
    (fun os started H enc _ => lifted os started H enc)
theorem proved : Rows.LetterPacksSaid := over
#print axioms proved
end Go.Proofs.Ytlplpmkdebemnaa.letterPacks
