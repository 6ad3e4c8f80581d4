/- In a round of a range over a function, at the wide fence, a statement's operations go as anywhere. No conditions. -/
import Derived.RangeFuncNested
import Derived.RangeFuncCalls
import Derived.WalkKit
import Derived.OrdersIn
namespace Go.Proofs.Ytlplpmkdebemnaa
set_option linter.unusedVariables false
set_option linter.unusedSimpArgs false
open Go.RowKit
section
variable {P : Program} {Q : Exit → Act → World → Prop} {a : Act} {w : World} {n : Nat} {l : Nat}
/-- The fence of a round, at the wide fence. -/
def RF (l : Nat) : Fence := Fence.wide.inRound l
theorem rowsIn_RF {row : String} {args : Array Value} {R : Value → World → Prop} (h : Rows P row args w R) : RowsIn (RF l) n P row args w R :=
  fun c cs _ => let ⟨v, w', r, s⟩ := h c cs; ⟨v, w', r, stepsIn_wide.2 s⟩
theorem op_in {o : Oper} {K : Act → World → Prop} (hd : ∀ c, o.op ≠ .defer c) (h : o.wp P a w K Q) : o.wpIn (RF l) n P a w K Q := by
  refine ⟨fun f _ => trivial, ?_⟩
  rw [Oper.semAt_eq _ _ _ hd]
  unfold Oper.wp at h
  generalize hr : (execOp a.eval o).run P w = r at *
  cases r with
  | ok x w' =>
    cases x <;> simp only [Oper.upon, Oper.uponIn] at h ⊢
    all_goals first
      | exact h
      | exact h.elim
      | exact ⟨fun h => absurd h (by simp [RF, Fence.inRound, Fence.wide]), CallsIn.inRound l (callsIn_wide.2 h)⟩
      | exact ⟨fun h => absurd h (by simp [RF, Fence.inRound, Fence.wide]), rowsIn_RF h⟩
  | halt x w' => cases x <;> first | exact h | exact h.elim
/-- The same at the wide fence, outside a round. -/
theorem op_wide {o : Oper} {K : Act → World → Prop} (h : o.wp P a w K Q) : o.wpIn Fence.wide n P a w K Q := by
  refine ⟨fun f _ => trivial, ?_⟩
  unfold Oper.wp at h
  rw [show Oper.semAt Fence.wide.round a.eval o = execOp a.eval o from rfl]
  generalize hr : (execOp a.eval o).run P w = r at *
  cases r with
  | ok x w' =>
    cases x <;> simp only [Oper.upon, Oper.uponIn] at h ⊢
    all_goals first
      | exact h
      | exact h.elim
      | exact ⟨fun h => absurd h (by simp [Fence.wide]), callsIn_wide.2 h⟩
      | exact ⟨fun h => absurd h (by simp [Fence.wide]), fun c cs _ => let ⟨v, w', r, s⟩ := h c cs; ⟨v, w', r, stepsIn_wide.2 s⟩⟩
  | halt x w' => cases x <;> first | exact h | exact h.elim
/-- A step of a list, by the plain walk's law. -/
theorem listIn_wide {ops : Array Oper} {rest : List Oper} {o : Oper} (hgd : o.guard = none) (h : ∀ K : Act → World → Prop, (∀ a w, wpListIn Fence.wide n P ops Q rest a w → K a w) → o.wp P a w K Q) : wpListIn Fence.wide n P ops Q (o :: rest) a w :=
  wpListIn_plain hgd fun K hK => op_wide (h K hK)
theorem listIn_round {ops : Array Oper} {rest : List Oper} {o : Oper} (hgd : o.guard = none) (hd : ∀ c, o.op ≠ .defer c) (h : ∀ K : Act → World → Prop, (∀ a w, wpListIn (RF l) n P ops Q rest a w → K a w) → o.wp P a w K Q) : wpListIn (RF l) n P ops Q (o :: rest) a w :=
  wpListIn_plain hgd fun K hK => op_in hd (h K hK)
/-- No operation is a defer statement. -/
def noDefer (ops : List Oper) : Bool := ops.all fun o => match o.op with | .defer _ => false | _ => true
theorem noDefer_at {ops : List Oper} (h : noDefer ops = true) {o : Oper} (ho : o ∈ ops) : ∀ c, o.op ≠ .defer c := by
  intro c hc
  have := List.all_eq_true.1 h o ho
  rw [hc] at this
  cases this
theorem any_in {ops : Array Oper} {md : Region.Mode} (hd : noDefer ops.toList = true) (hl : ¬ LetsOut Q) : ∀ (fuel : Nat) (listed : Array Bool) (a : Act) (w : World), wpAny P md ops Q fuel listed a w → wpAnyIn (RF l) n P md ops Q fuel listed a w
  | 0, _, _, _, h => h
  | fuel + 1, listed, a, w, h => by
    refine ⟨h.1, fun i hi => ?_⟩
    have h2 := h.2 i hi
    unfold wpOp at h2
    unfold wpOpIn
    split
    · rename_i ho
      rw [ho] at h2
      exact any_in hd hl fuel _ _ _ h2
    · rename_i o ho
      rw [ho] at h2
      simp only at h2
      by_cases hw : Region.wanted o (yielded ops a.tmps) = true
      · rw [if_pos hw] at h2 ⊢
        rcases h2 with h3 | h3
        · refine op_in (noDefer_at hd ?_) (Oper.wp_mono (fun a w h => any_in hd hl fuel _ a w h) h3)
          have := Array.mem_of_getElem? ho
          simpa using this
        · exact absurd h3.2 hl
      · rw [if_neg hw] at h2 ⊢
        exact ⟨fun _ _ => trivial, any_in hd hl fuel _ _ _ h2⟩
theorem list_in {ops : Array Oper} (hl : ¬ LetsOut Q) : ∀ (os : List Oper) (a : Act) (w : World), noDefer os = true → wpList P ops Q os a w → wpListIn (RF l) n P ops Q os a w
  | [], _, _, _, h => h
  | o :: os, a, w, hd, h => by
    have hd2 : noDefer os = true := by unfold noDefer at *; rw [List.all_cons, Bool.and_eq_true] at hd; exact hd.2
    unfold wpList at h
    unfold wpListIn
    by_cases hw : Region.wanted o (yielded ops a.tmps) = true
    · rw [if_pos hw] at h ⊢
      rcases h with h3 | h3
      · exact op_in (noDefer_at hd (List.mem_cons_self ..)) (Oper.wp_mono (fun a w h => list_in hl os a w hd2 h) h3)
      · exact absurd h3.2 hl
    · rw [if_neg hw] at h ⊢
      exact ⟨fun _ _ => trivial, list_in hl os _ _ hd2 h⟩
/-- A statement in a round, whose order is open: by the walk that serves elsewhere. -/
theorem region_any_in {id : Nat} {os : List Oper} (hm : P.follows .mixedOrders = true) (hd : noDefer os = true) (hl : ¬ LetsOut Q)
    (h : wpAny P .any os.toArray Q os.toArray.size (Array.replicate os.toArray.size false) a w.drew) : (Code.region id os.toArray true).wpIn (RF l) n P Q a w :=
  wpIn_region_any hm (any_in (by simpa using hd) hl _ _ _ _ h)
/-- A statement in a round, in the text's order. -/
theorem region_lit_in {id : Nat} {os : List Oper} (hd : noDefer os = true) (hl : ¬ LetsOut Q) (h : wpList P os.toArray Q os a w) : (Code.region id os.toArray false).wpIn (RF l) n P Q a w :=
  wpIn_region_lit (list_in hl _ _ _ hd h)
end
end Go.Proofs.Ytlplpmkdebemnaa
