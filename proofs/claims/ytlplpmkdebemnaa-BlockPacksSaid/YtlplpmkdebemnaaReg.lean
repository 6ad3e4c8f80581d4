/- Statements whose order is left open: loads beside calls and stores. No conditions. -/
import Derived.Test.YtlplpmkdebemnaaArr
import Derived.Still
import Derived.Orders
import Derived.KernelRfl
namespace Go.Proofs.Ytlplpmkdebemnaa
set_option linter.unusedVariables false
set_option linter.unusedSimpArgs false
section
variable {P : Program} {ops : Array Oper} {md : Region.Mode} {w : World}
/-- So many operations of a kind come up next, in whatever order, none of which changes the world; then L. -/
def wpM (P : Program) (md : Region.Mode) (ops : Array Oper) (w : World) (head : Nat → Bool) (L : Array Bool → Act → Prop) : Nat → Array Bool → Act → Prop
  | 0, listed, a => L listed a
  | f + 1, listed, a => Region.ready md ops listed ≠ [] ∧ ∀ i ∈ Region.ready md ops listed, head i = true ∧ stOp P ops w i (wpM P md ops w head L f (listed.setIfInBounds i true)) a
theorem wpM_any {head : Nat → Bool} {g : Nat} {L : Array Bool → Act → Prop} {Q' : Exit → Act → World → Prop} (hL : ∀ listed a, L listed a → wpAny P md ops Q' g listed a w) :
    ∀ (f : Nat) (listed : Array Bool) (a : Act), wpM P md ops w head L f listed a → wpAny P md ops Q' (f + g) listed a w
  | 0, listed, a, h => by rw [Nat.zero_add]; exact hL _ _ h
  | f + 1, listed, a, h => by
    rw [show f + 1 + g = (f + g) + 1 by omega]
    exact ⟨fun h0 => absurd h0 h.1, fun i hi => wpOp_of_stOp (fun a' h' => wpM_any hL f _ a' h') (h.2 i hi).2⟩
/-- While i has not come up, only operations of the kind are ready. -/
def headB (md : Region.Mode) (ops : Array Oper) (head : Nat → Bool) (i : Nat) : Nat → Array Bool → Bool
  | 0, listed => (Region.ready md ops listed).all head
  | f + 1, listed => (Region.ready md ops listed).all fun j => head j && (j == i || headB md ops head i f (listed.setIfInBounds j true))
theorem headB_head {head : Nat → Bool} {i f : Nat} {listed : Array Bool} (h : headB md ops head i f listed = true) : ∀ j ∈ Region.ready md ops listed, head j = true := by
  intro j hj
  cases f with
  | zero => exact List.all_eq_true.1 h j hj
  | succ f => have := List.all_eq_true.1 h j hj; simp only [Bool.and_eq_true] at this; exact this.1
theorem headB_next {head : Nat → Bool} {i f j : Nat} {listed : Array Bool} (h : headB md ops head i (f + 1) listed = true) (hj : j ∈ Region.ready md ops listed) (hji : j ≠ i) : headB md ops head i f (listed.setIfInBounds j true) = true := by
  have := List.all_eq_true.1 h j hj
  simp only [Bool.and_eq_true, Bool.or_eq_true, beq_iff_eq] at this
  exact this.2.resolve_left hji
theorem wpM_take {head : Nat → Bool} {i : Nat} {oi : Oper} {v : Value} {L : Array Bool → Act → Prop} (hi : ops[i]? = some oi) (hsel : Region.noSelect ops = true)
    (hdone : ∀ listed a, L listed a → ∀ j ∈ Region.ready md ops listed, head j = false) :
    ∀ (f : Nat) (listed : Array Bool) (a : Act),
      (∀ j oj, ops[j]? = some oj → j ≠ i → listed.getD j true = false → (∀ e ∈ oj.after, Region.binds md e = true → e.on ≠ i) → oi.apart ops oj = true) →
      i ∈ Region.ready md ops listed → YieldsAt P ops w oi v a → headB md ops head i f listed = true →
      wpM P md ops w head L f (listed.setIfInBounds i true) (a.put oi.dst v) → wpM P md ops w head L (f + 1) listed a := by
  intro f
  induction f with
  | zero =>
    intro listed a hfree hr hy hT H
    refine ⟨fun h => (by rw [h] at hr; cases hr), fun j hj => ⟨headB_head hT j hj, ?_⟩⟩
    by_cases hji : j = i
    · subst hji; exact hy.stOp hi H
    · have h1 := hdone _ _ H j (ready_mono hj hji)
      rw [headB_head hT j hj] at h1
      cases h1
  | succ f ih =>
    intro listed a hfree hr hy hT H
    refine ⟨fun h => (by rw [h] at hr; cases hr), fun j hj => ⟨headB_head hT j hj, ?_⟩⟩
    by_cases hji : j = i
    · subst hji; exact hy.stOp hi H
    · have hj' := ready_mono (i := i) hj hji
      have h1 := (H.2 j hj').2
      obtain ⟨hun, oj, hoj, hall⟩ := mem_ready.1 hj
      have hne : ∀ e ∈ oj.after, Region.binds md e = true → e.on ≠ i := by
        intro e he hb hon
        have h2 := hall e he hb
        rw [hon] at h2
        have h3 := (mem_ready.1 hr).1
        rcases Nat.lt_or_ge i listed.size with h' | h'
        · simp [h'] at h2 h3; rw [h2] at h3; cases h3
        · simp [Array.getElem?_eq_none h'] at h2
      have hap := hfree j oj hoj hji hun hne
      have h2 := stOp_put hoj hap (fun cs b => Region.noSelect_spec hsel i oi cs b hi) (fun cs b => Region.noSelect_spec hsel j oj cs b hoj) hy h1
      refine stOp_mono ?_ h2
      rintro a' ⟨hy', h3⟩
      refine ih _ a' ?_ (ready_mono hr (Ne.symm hji)) hy' (headB_next hT hj hji) ?_
      · intro k ok hok hki hunk hek
        refine hfree k ok hok hki ?_ hek
        by_cases hkj : j = k
        · subst hkj; exact hun
        · rwa [getD_set_ne true hkj] at hunk
      · rw [Array.setIfInBounds_comm _ _ (Ne.symm hji)] at h3
        exact h3
/-- One operation that does not change the world, first of its kind. -/
theorem wpM_first {head : Nat → Bool} {i : Nat} {oi : Oper} {v : Value} {L : Array Bool → Act → Prop} {f : Nat} {listed : Array Bool} {a : Act} (hi : ops[i]? = some oi) (hsel : Region.noSelect ops = true)
    (hdone : ∀ listed a, L listed a → ∀ j ∈ Region.ready md ops listed, head j = false) (hf : Region.free md ops listed i = true) (hr : (Region.ready md ops listed).contains i = true)
    (hT : headB md ops head i f listed = true) (hy : YieldsAt P ops w oi v a) (h : wpM P md ops w head L f (listed.setIfInBounds i true) (a.put oi.dst v)) : wpM P md ops w head L (f + 1) listed a :=
  wpM_take hi hsel hdone f listed a (Region.free_spec hi hf) (by simpa using hr) hy hT h
theorem wpM_phase {head : Nat → Bool} {l₀ : Array Bool} {f g : Nat} {Q : Exit → Act → World → Prop} {listed : Array Bool} {a : Act} (hd : ((Region.ready md ops l₀).all fun j => !head j) = true)
    (h : wpM P md ops w head (fun l a' => l = l₀ ∧ wpAny P md ops Q g l a' w) f listed a) : wpAny P md ops Q (f + g) listed a w :=
  wpM_any (fun l a' h => h.2) f listed a h
theorem wpM_load {head : Nat → Bool} {i : Nat} {oi : Oper} {v : Value} {l₀ : Array Bool} {g : Nat} {Q : Exit → Act → World → Prop} {f : Nat} {listed : Array Bool} {a : Act} (hi : ops[i]? = some oi) (hsel : Region.noSelect ops = true)
    (hd : ((Region.ready md ops l₀).all fun j => !head j) = true) (hf : Region.free md ops listed i = true) (hr : (Region.ready md ops listed).contains i = true)
    (hT : headB md ops head i f listed = true) (hy : YieldsAt P ops w oi v a) (h : wpM P md ops w head (fun l a' => l = l₀ ∧ wpAny P md ops Q g l a' w) f (listed.setIfInBounds i true) (a.put oi.dst v)) :
    wpM P md ops w head (fun l a' => l = l₀ ∧ wpAny P md ops Q g l a' w) (f + 1) listed a :=
  wpM_first hi hsel (fun l a' ⟨hl, _⟩ j hj => by subst hl; have := List.all_eq_true.1 hd j hj; simpa using this) hf hr hT hy h
/-- The one operation that is ready. -/
theorem wpAny_only {i : Nat} {oi : Oper} {Q : Exit → Act → World → Prop} {fuel : Nat} {listed : Array Bool} {a : Act} (hi : ops[i]? = some oi) (hr : Region.ready md ops listed = [i]) (hg : oi.guard = none)
    (h : ∀ K : Act → World → Prop, (∀ a w, wpAny P md ops Q fuel (listed.setIfInBounds i true) a w → K a w) → oi.wp P a w K Q) : wpAny P md ops Q (fuel + 1) listed a w :=
  wpAny_all hr (by simp) (fun j hj => by
    rw [List.mem_singleton] at hj
    subst hj
    unfold wpOp
    simp only [hi, Region.wanted, hg, if_true]
    exact .inl (h _ (fun _ _ h => h)))
end
end Go.Proofs.Ytlplpmkdebemnaa
