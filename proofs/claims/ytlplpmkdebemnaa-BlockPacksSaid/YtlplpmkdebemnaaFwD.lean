/- A statement whose order is left open, by facts: pure operations and loads first; the others as they come up. No conditions. -/
import Derived.Test.YtlplpmkdebemnaaFw
import Derived.OrdersHeld
namespace Go.Proofs.Ytlplpmkdebemnaa.Fw
set_option linter.unusedVariables false
set_option linter.unusedSimpArgs false
open Go.RowKit Bv
section
variable {P : Program} {ops : Array Oper} {Q : Exit → Act → World → Prop} {md : Region.Mode} {S : World → Prop} {kb : Nat}
def Closed (md : Region.Mode) (ops : Array Oper) (l : Array Bool) : Prop := ∀ j oj, l.getD j false = true → ops[j]? = some oj → ∀ e ∈ oj.after, Region.binds md e = true → l.getD e.on false = true
def closedB (md : Region.Mode) (ops : Array Oper) (l : Array Bool) : Bool := (List.range ops.size).all fun j => !l.getD j false || (match ops[j]? with | some oj => oj.after.all fun e => !Region.binds md e || l.getD e.on false | none => true)
theorem closedB_spec {l : Array Bool} (h : closedB md ops l = true) : Closed md ops l := by
  intro j oj hj ho e he hb
  have h1 := List.all_eq_true.1 h j (List.mem_range.2 (Array.getElem?_eq_some_iff.1 ho).1)
  simp only [hj, ho, Bool.not_true, Bool.false_or] at h1
  rw [← Array.all_toList] at h1
  have h2 := List.all_eq_true.1 h1 e (by simpa using he)
  simpa [hb] using h2
def dep (md : Region.Mode) (ops : Array Oper) (i : Nat) : Nat → Nat → Bool
  | 0, _ => false
  | f + 1, k => match ops[k]? with
    | none => false
    | some o => o.after.any fun e => Region.binds md e && (e.on == i || dep md ops i f e.on)
theorem dep_spec {i : Nat} {l : Array Bool} (hc : Closed md ops l) : ∀ (f k : Nat), dep md ops i f k = true → l.getD k false = true → l.getD i false = true
  | 0, _, h, _ => by cases h
  | f + 1, k, h, hl => by
    unfold dep at h
    cases ho : ops[k]? with
    | none => rw [ho] at h; cases h
    | some o =>
      rw [ho] at h
      simp only at h
      rw [← Array.any_toList] at h
      obtain ⟨e, he', h1⟩ := List.any_eq_true.1 h
      have he : e ∈ o.after := by simpa using he'
      simp only [Bool.and_eq_true, Bool.or_eq_true, beq_iff_eq] at h1
      have h2 := hc k o hl ho e he h1.1
      rcases h1.2 with h3 | h3
      · rw [← h3]; exact h2
      · exact dep_spec hc f e.on h3 h2
/-- Whatever order is picked from here on; and S holds behind every operation till number kb has come up. -/
def wpAnyD (P : Program) (md : Region.Mode) (ops : Array Oper) (Q : Exit → Act → World → Prop) (S : World → Prop) (kb : Nat) : Nat → Array Bool → Act → World → Prop
  | 0, l, a, w => Region.ready md ops l = [] ∧ Q .normal a w
  | f + 1, l, a, w => (Region.ready md ops l = [] → Q .normal a w) ∧
    ∀ i ∈ Region.ready md ops l, wpOp P ops Q i (fun a' w' => ((l.setIfInBounds i true).getD kb false = false → S w') ∧ wpAnyD P md ops Q S kb f (l.setIfInBounds i true) a' w') a w
theorem wpAny_of_D : ∀ (f : Nat) (l : Array Bool) (a : Act) (w : World), wpAnyD P md ops Q S kb f l a w → wpAny P md ops Q f l a w
  | 0, _, _, _, h => h
  | f + 1, _, _, _, h => ⟨h.1, fun i hi => wpOp_mono (fun a' w' h' => wpAny_of_D f _ a' w' h'.2) (h.2 i hi)⟩
theorem getD_set_self {l : Array Bool} {i : Nat} (h : i < l.size) : (l.setIfInBounds i true).getD i false = true := by simp [h]
theorem getD_set_of {l : Array Bool} {i k : Nat} (h : l.getD k false = true) : (l.setIfInBounds i true).getD k false = true := by
  simp only [Array.getD_eq_getD_getElem?, Array.getElem?_setIfInBounds] at *
  by_cases e : i = k
  · subst e
    by_cases hi : i < l.size
    · simp [hi]
    · simp [Array.getElem?_eq_none (Nat.le_of_not_lt hi)] at h
  · simp [e, h]
theorem closed_set {l : Array Bool} {j : Nat} (hc : Closed md ops l) (hj : j ∈ Region.ready md ops l) (hs : l.size = ops.size) : Closed md ops (l.setIfInBounds j true) := by
  obtain ⟨hun, oj, hoj, hall⟩ := mem_ready.1 hj
  intro k ok hk hok e he hb
  by_cases hkj : k = j
  · subst hkj
    rw [hoj] at hok
    cases hok
    exact getD_set_of (hall e he hb)
  · rw [getD_set_ne false (Ne.symm hkj)] at hk
    exact getD_set_of (hc k ok hk hok e he hb)
theorem wpAnyD_first {i : Nat} {oi : Oper} {v : Value} (hi : ops[i]? = some oi) (hsel : ∀ (j : Nat) (o : Oper) cs b, ops[j]? = some o → o.op ≠ .select cs b)
    (hQ : ∀ c a w, Q (.panic c) (a.put oi.dst v) w → Q (.panic c) a w) (hne : kb ≠ i) :
    ∀ (fuel : Nat) (l : Array Bool) (a : Act) (w : World), l.size = ops.size → Closed md ops l → ((∃ f, dep md ops i f kb = true) ∨ ops.size ≤ kb) →
      (∀ j oj, ops[j]? = some oj → j ≠ i → l.getD j true = false → (∀ e ∈ oj.after, Region.binds md e = true → e.on ≠ i) → oi.apart ops oj = true) →
      i ∈ Region.ready md ops l → YieldsIf P ops S oi v a → S w →
      wpAnyD P md ops Q S kb fuel (l.setIfInBounds i true) (a.put oi.dst v) w → wpAnyD P md ops Q S kb (fuel + 1) l a w := by
  intro fuel
  induction fuel with
  | zero =>
    intro l a w hsz hc hk _ hr hy hS H
    refine ⟨fun h => (by rw [h] at hr; cases hr), fun j hj => ?_⟩
    by_cases hji : j = i
    · subst hji; exact hy.wpOp hi hS ⟨fun _ => hS, H⟩
    · have := ready_mono hj hji
      rw [H.1] at this
      cases this
  | succ fuel ih =>
    intro l a w hsz hc hk hfree hr hy hS H
    refine ⟨fun h => (by rw [h] at hr; cases hr), fun j hj => ?_⟩
    by_cases hji : j = i
    · subst hji; exact hy.wpOp hi hS ⟨fun _ => hS, H⟩
    · have h1 := H.2 j (ready_mono hj hji)
      obtain ⟨hjun, oj, hoj, hall⟩ := mem_ready.1 hj
      have hiun : l.getD i false = false := by
        have h0 := (mem_ready.1 hr).1
        simp only [Array.getD_eq_getD_getElem?] at h0 ⊢
        cases hx : l[i]? with
        | none => rfl
        | some b => rw [hx] at h0; simpa using h0
      have hnot : ∀ e ∈ oj.after, Region.binds md e = true → e.on ≠ i := fun e he hb heq => by
        have h1 := hall e he hb
        rw [heq, hiun] at h1
        cases h1
      have h2 := wpOp_putIf hoj (hfree j oj hoj hji hjun hnot) (fun cs b => hsel i oi cs b hi) (fun cs b => hsel j oj cs b hoj) hQ hy h1
      have hfree' : ∀ k ok, ops[k]? = some ok → k ≠ i → (l.setIfInBounds j true).getD k true = false →
          (∀ e ∈ ok.after, Region.binds md e = true → e.on ≠ i) → oi.apart ops ok = true := fun k ok hk hki hun hno => by
        refine hfree k ok hk hki ?_ hno
        by_cases hjk : j = k
        · subst hjk; exact hjun
        · rw [getD_set_ne true hjk] at hun; exact hun
      have hcj := closed_set hc hj hsz
      have hij : (l.setIfInBounds j true).getD i false = false := by rw [getD_set_ne false hji]; exact hiun
      have hkj : (l.setIfInBounds j true).getD kb false = false := by
        rcases hk with ⟨f, hd⟩ | hlt
        · cases hx : (l.setIfInBounds j true).getD kb false with
          | false => rfl
          | true => have := dep_spec hcj f kb hd hx; rw [hij] at this; cases this
        · simp [Array.getElem?_eq_none (show (l.setIfInBounds j true).size ≤ kb by simpa [hsz] using hlt)]
      have hkij : ((l.setIfInBounds i true).setIfInBounds j true).getD kb false = false := by
        rw [Array.setIfInBounds_comm _ _ (Ne.symm hji), getD_set_ne false (Ne.symm hne)]; exact hkj
      refine wpOp_mono (fun a' w' h3 => ⟨fun _ => h3.2.1 hkij, ih (l.setIfInBounds j true) a' w' (by simpa using hsz) hcj hk hfree' (ready_mono hr (Ne.symm hji)) h3.1 (h3.2.1 hkij) ?_⟩) h2
      rw [Array.setIfInBounds_comm _ _ hji]
      exact h3.2.2
theorem wpAnyD_firstP {i : Nat} {oi : Oper} {v : Value} (hi : ops[i]? = some oi) (hsel : ∀ (j : Nat) (o : Oper) cs b, ops[j]? = some o → o.op ≠ .select cs b)
    (hQ : ∀ c a w, Q (.panic c) (a.put oi.dst v) w → Q (.panic c) a w) (hne : kb ≠ i) :
    ∀ (fuel : Nat) (l : Array Bool) (a : Act) (w : World), (l.getD kb false = false → S w) →
      (∀ j oj, ops[j]? = some oj → j ≠ i → l.getD j true = false → (∀ e ∈ oj.after, Region.binds md e = true → e.on ≠ i) → oi.apart ops oj = true) →
      i ∈ Region.ready md ops l → YieldsIf P ops (fun _ => True) oi v a →
      wpAnyD P md ops Q S kb fuel (l.setIfInBounds i true) (a.put oi.dst v) w → wpAnyD P md ops Q S kb (fuel + 1) l a w := by
  have hkeep : ∀ (l : Array Bool), (l.setIfInBounds i true).getD kb false = l.getD kb false := fun l => getD_set_ne false (Ne.symm hne)
  intro fuel
  induction fuel with
  | zero =>
    intro l a w hS _ hr hy H
    refine ⟨fun h => (by rw [h] at hr; cases hr), fun j hj => ?_⟩
    by_cases hji : j = i
    · subst hji; exact hy.wpOp hi trivial ⟨fun h => hS (by rw [hkeep] at h; exact h), H⟩
    · have := ready_mono hj hji
      rw [H.1] at this
      cases this
  | succ fuel ih =>
    intro l a w hS hfree hr hy H
    refine ⟨fun h => (by rw [h] at hr; cases hr), fun j hj => ?_⟩
    by_cases hji : j = i
    · subst hji; exact hy.wpOp hi trivial ⟨fun h => hS (by rw [hkeep] at h; exact h), H⟩
    · have h1 := H.2 j (ready_mono hj hji)
      obtain ⟨hjun, oj, hoj, hall⟩ := mem_ready.1 hj
      have hiun : l.getD i false = false := by
        have h0 := (mem_ready.1 hr).1
        simp only [Array.getD_eq_getD_getElem?] at h0 ⊢
        cases hx : l[i]? with
        | none => rfl
        | some b => rw [hx] at h0; simpa using h0
      have hnot : ∀ e ∈ oj.after, Region.binds md e = true → e.on ≠ i := fun e he hb heq => by
        have h1 := hall e he hb
        rw [heq, hiun] at h1
        cases h1
      have h2 := wpOp_putIf hoj (hfree j oj hoj hji hjun hnot) (fun cs b => hsel i oi cs b hi) (fun cs b => hsel j oj cs b hoj) hQ hy h1
      have hfree' : ∀ k ok, ops[k]? = some ok → k ≠ i → (l.setIfInBounds j true).getD k true = false →
          (∀ e ∈ ok.after, Region.binds md e = true → e.on ≠ i) → oi.apart ops ok = true := fun k ok hk hki hun hno => by
        refine hfree k ok hk hki ?_ hno
        by_cases hjk : j = k
        · subst hjk; exact hjun
        · rw [getD_set_ne true hjk] at hun; exact hun
      have hS2 : ∀ w', (((l.setIfInBounds i true).setIfInBounds j true).getD kb false = false → S w') → ((l.setIfInBounds j true).getD kb false = false → S w') := by
        intro w' h hk
        exact h (by rw [Array.setIfInBounds_comm _ _ (Ne.symm hji), hkeep]; exact hk)
      refine wpOp_mono (fun a' w' h3 => ⟨hS2 w' h3.2.1, ih (l.setIfInBounds j true) a' w' (hS2 w' h3.2.1) hfree' (ready_mono hr (Ne.symm hji)) h3.1 ?_⟩) h2
      rw [Array.setIfInBounds_comm _ _ hji]
      exact h3.2.2
theorem wpAnyD_mono {Q' : Exit → Act → World → Prop} (hn : ∀ a w, Q .normal a w → Q' .normal a w) (hp : ∀ c a w, Q (.panic c) a w → Q' (.panic c) a w) (hl : LetsOut Q → LetsOut Q') : ∀ (f : Nat) (l : Array Bool) (a : Act) (w : World), wpAnyD P md ops Q S kb f l a w → wpAnyD P md ops Q' S kb f l a w := by
  have hop : ∀ {i : Nat} {a : Act} {w : World} {K : Act → World → Prop}, wpOp P ops Q i K a w → wpOp P ops Q' i K a w := by
    intro i a w K h
    unfold wpOp at *
    split
    · rename_i ho; simpa [ho] using h
    · rename_i o ho
      simp only [ho] at h
      split
      · rename_i hw
        rw [if_pos hw] at h
        rcases h with h | ⟨h1, h2⟩
        · refine .inl ?_
          unfold Oper.wp at *
          generalize (execOp a.eval o).run P w = r at *
          cases r with
          | ok n w' =>
            cases n <;> simp only [Oper.upon] at h ⊢ <;> first
              | exact h
              | exact Calls.mono h (fun e w'' he => by cases e <;> first | exact he | exact hp _ _ _ he | exact hl he)
          | halt x w' => cases x <;> simp only [Oper.upon] at h ⊢ <;> first | exact h | exact hp _ _ _ h
        · exact .inr ⟨h1, hl h2⟩
      · rename_i hw; rw [if_neg hw] at h; exact h
  intro f
  induction f with
  | zero => exact fun l a w h => ⟨h.1, hn _ _ h.2⟩
  | succ f ih => exact fun l a w h => ⟨fun e => hn _ _ (h.1 e), fun i hi => wpOp_mono (fun a' w' h' => ⟨h'.1, ih _ _ _ h'.2⟩) (hop (h.2 i hi))⟩
end
/-- An operation's value, told by the slots and by what is held. -/
def Ld (P : Program) (s : List (Nat × Value)) (h : List HA) (o : Oper) (v : Value) : Prop := ∀ e, Ag s e → ∀ w, HOK h w → (execOp e o).run P w = .ok (.value v) w
/-- The same in whatever world. -/
def Pr (P : Program) (s : List (Nat × Value)) (h : List HA) (o : Oper) (v : Value) : Prop := ∀ e, Ag s e → ∀ w, HOK h w → ∀ w', (execOp e o).run P w' = .ok (.value v) w'
theorem Pr.ld {P : Program} {s : List (Nat × Value)} {h : List HA} {o : Oper} {v : Value} (hp : Pr P s h o v) : Ld P s h o v := fun e he w hw => hp e he w hw w
/-- Is an operation wanted? -/
def wantS (ops : Array Oper) (s : List (Nat × Value)) (o : Oper) : Option Bool :=
  match o.guard with
  | none => some true
  | some (j, b) => match ((ops[j]?).bind (·.dst)).bind (fun d => s.lookup d) with
    | some (.bool c) => some (c == b)
    | some _ => some false
    | none => none
section
variable {P : Program} {X : Cx} {s : List (Nat × Value)} {h : List HA} {a : Act} {w : World} {ops : Array Oper} {o : Oper} {K K0 : Jd} {v : Value}
theorem wantS_spec {b : Bool} (st : St X s h a w) (hw : wantS ops s o = some b) : Region.wanted o (yielded ops a.tmps) = b := by
  unfold wantS at hw
  unfold Region.wanted
  cases hg : o.guard with
  | none => rw [hg] at hw; simpa using hw
  | some jb =>
    obtain ⟨j, c⟩ := jb
    rw [hg] at hw
    simp only at hw ⊢
    cases hd : (ops[j]?).bind (·.dst) with
    | none => rw [hd] at hw; simp at hw
    | some d =>
      rw [hd] at hw
      simp only [Option.bind_some] at hw
      cases hl : s.lookup d with
      | none => rw [hl] at hw; simp at hw
      | some u =>
        rw [hl] at hw
        have h1 := st.sl d u hl
        cases u with
        | bool t =>
          simp only [Option.some.injEq] at hw
          unfold yielded
          simp only [hd, Option.bind_some, h1]
          rw [← hw]
          rcases t <;> rcases c <;> rfl
        | _ =>
          simp only [Option.some.injEq] at hw
          unfold yielded
          simp only [hd, Option.bind_some, h1]
          rw [← hw]
          rfl
theorem L_nil (hh : Tr X s h K) : Tr X s h (Ls P ops K []) := fun a w st => hh a w st
theorem L_op {os : List Oper} (hw : wantS ops s o = some true) (hh : Tr X s h (Op P o (Ls P ops K os) K)) : Tr X s h (Ls P ops K (o :: os)) := fun a w st => by
  unfold Ls wpList
  rw [if_pos (wantS_spec st hw)]
  refine .inl ?_
  have := hh a w st
  unfold Op at this
  exact this
theorem L_skip {os : List Oper} {d : Nat} (hw : wantS ops s o = some false) (hd : o.dst = some d) (hN : Nat.blt d X.N = true) (hh : Tr X ((d, undef) :: s) h (Ls P ops K os)) : Tr X s h (Ls P ops K (o :: os)) := fun a w st => by
  unfold Ls wpList
  rw [if_neg (by rw [wantS_spec st hw]; exact Bool.false_ne_true), hd]
  exact hh _ w (st.put (Nat.le_of_ble_eq_true hN) undef)
theorem L_skip0 {os : List Oper} (hw : wantS ops s o = some false) (hd : o.dst = none) (hh : Tr X s h (Ls P ops K os)) : Tr X s h (Ls P ops K (o :: os)) := fun a w st => by
  unfold Ls wpList
  rw [if_neg (by rw [wantS_spec st hw]; exact Bool.false_ne_true), hd]
  exact hh a w st
theorem op_ld {d : Nat} (hp : Ld P s h o v) (hd : o.dst = some d) (hN : Nat.blt d X.N = true) (hh : Tr X ((d, v) :: s) h K) : Tr X s h (Op P o K K0) := fun a w st => by
  unfold Op Oper.wp
  rw [hp _ st.ag w st.ok, Oper.upon_value, hd]
  exact hh _ w (st.put (Nat.le_of_ble_eq_true hN) v)
theorem op_pr {d : Nat} (hp : Pr P s h o v) (hd : o.dst = some d) (hN : Nat.blt d X.N = true) (hh : Tr X ((d, v) :: s) h K) : Tr X s h (Op P o K K0) := op_ld hp.ld hd hN hh
/-- In any order. -/
def AnD (P : Program) (ops : Array Oper) (K : Jd) (hS : List HA) (kb f : Nat) (l : Array Bool) : Jd := fun a w => wpAnyD P .any ops (QK K) (HOK hS) kb f l a w
def AnI (P : Program) (ops : Array Oper) (K : Jd) (hS : List HA) (kb f : Nat) (l : Array Bool) : Jd := fun a w => (l.getD kb false = false → HOK hS w) ∧ wpAnyD P .any ops (QK K) (HOK hS) kb f l a w
def PickM (h : List HA) (is : List Nat) (h' : List HA) : Prop := is.map (h[·]?) = h'.map some
theorem PickM.hok {is : List Nat} {h' : List HA} (hp : PickM h is h') {w : World} (hw : HOK h w) : HOK h' w := by
  intro x hx
  have : some x ∈ is.map (h[·]?) := by rw [hp]; exact List.mem_map.2 ⟨x, hx, rfl⟩
  obtain ⟨i, _, hi⟩ := List.mem_map.1 this
  exact hw x (List.mem_of_getElem? hi)
theorem D_take {hS : List HA} {kb : Nat} {i : Nat} {oi : Oper} {d : Nat} {f : Nat} {l : Array Bool} (is : List Nat) (hi : ops[i]? = some oi) (hs : (Region.noSelect ops && Region.free .any ops l i && (Region.ready .any ops l).contains i && closedB .any ops l && (l.size == ops.size) && (kb != i) && (dep .any ops i ops.size kb || Nat.ble ops.size kb)) = true)
    (hw : wantS ops s oi = some true) (hp : Ld P s hS oi v) (hS' : PickM h is hS) (hd : oi.dst = some d) (hN : Nat.blt d X.N = true) (hh : Tr X ((d, v) :: s) h (AnD P ops K hS kb f (l.setIfInBounds i true))) : Tr X s h (AnD P ops K hS kb (f + 1) l) := fun a w st => by
  simp only [Bool.and_eq_true, beq_iff_eq, bne_iff_ne, ne_eq, Bool.or_eq_true] at hs
  obtain ⟨⟨⟨⟨⟨⟨h1, h2⟩, h3⟩, h4⟩, h5⟩, h6⟩, h7⟩ := hs
  refine wpAnyD_first hi (Region.noSelect_spec h1) (fun c a w hq => hq.elim) h6 f l a w h5 (closedB_spec h4) (h7.imp (fun h => ⟨_, h⟩) (fun h => Nat.le_of_ble_eq_true h)) (Region.free_spec hi h2) (by simpa using h3)
    (.inl ⟨wantS_spec st hw, fun w' hw' => hp _ st.ag w' hw'⟩) (hS'.hok st.ok) ?_
  rw [hd]
  exact hh _ w (st.put (Nat.le_of_ble_eq_true hN) v)
/-- A pure operation may be taken first. -/
theorem D_pure {hS : List HA} {kb : Nat} {i : Nat} {oi : Oper} {d : Nat} {f : Nat} {l : Array Bool} (is : List Nat) (hi : ops[i]? = some oi) (hs : (Region.noSelect ops && Region.free .any ops l i && (Region.ready .any ops l).contains i && (kb != i)) = true)
    (hw : wantS ops s oi = some true) (hp : Pr P s h oi v) (hS' : l.getD kb false = true ∨ PickM h is hS) (hd : oi.dst = some d) (hN : Nat.blt d X.N = true) (hh : Tr X ((d, v) :: s) h (AnD P ops K hS kb f (l.setIfInBounds i true))) : Tr X s h (AnD P ops K hS kb (f + 1) l) := fun a w st => by
  simp only [Bool.and_eq_true, bne_iff_ne, ne_eq] at hs
  obtain ⟨⟨⟨h1, h2⟩, h3⟩, h6⟩ := hs
  refine wpAnyD_firstP hi (Region.noSelect_spec h1) (fun c a w hq => hq.elim) h6 f l a w (fun e => hS'.elim (fun h => (by rw [h] at e; cases e)) (fun h => h.hok st.ok)) (Region.free_spec hi h2) (by simpa using h3)
    (.inl ⟨wantS_spec st hw, fun w' _ => hp _ st.ag w st.ok w'⟩) ?_
  rw [hd]
  exact hh _ w (st.put (Nat.le_of_ble_eq_true hN) v)
theorem D_pass {hS : List HA} {kb : Nat} {i : Nat} {oi : Oper} {d : Nat} {f : Nat} {l : Array Bool} (is : List Nat) (hi : ops[i]? = some oi) (hs : (Region.noSelect ops && Region.free .any ops l i && (Region.ready .any ops l).contains i && (kb != i)) = true)
    (hw : wantS ops s oi = some false) (hS' : l.getD kb false = true ∨ PickM h is hS) (hd : oi.dst = some d) (hN : Nat.blt d X.N = true) (hh : Tr X ((d, undef) :: s) h (AnD P ops K hS kb f (l.setIfInBounds i true))) : Tr X s h (AnD P ops K hS kb (f + 1) l) := fun a w st => by
  simp only [Bool.and_eq_true, bne_iff_ne, ne_eq] at hs
  obtain ⟨⟨⟨h1, h2⟩, h3⟩, h6⟩ := hs
  refine wpAnyD_firstP hi (Region.noSelect_spec h1) (fun c a w hq => hq.elim) h6 f l a w (fun e => hS'.elim (fun h => (by rw [h] at e; cases e)) (fun h => h.hok st.ok)) (Region.free_spec hi h2) (by simpa using h3)
    (.inr ⟨wantS_spec st hw, rfl⟩) ?_
  rw [hd]
  exact hh _ w (st.put (Nat.le_of_ble_eq_true hN) undef)
/-- The orders meet again behind the statement. -/
theorem D_join {T : Type} (p : T → Prop) (σ : T → List (Nat × Value)) (η : T → List HA) {hS : List HA} {kb f : Nat} {l : Array Bool} (h1 : Tr X s h (AnD P ops (Meet X p σ η) hS kb f l)) (h2 : ∀ t, p t → Tr X (σ t) (η t) K) : Tr X s h (AnD P ops K hS kb f l) := fun a w st =>
  wpAnyD_mono (fun a w hm => by obtain ⟨t, ht, hst⟩ := hm; exact h2 t ht a w hst) (fun c a w hq => hq.elim) (fun hl => absurd hl (qk_lets _)) f l a w (h1 a w st)
theorem D_skip {hS : List HA} {kb : Nat} {i : Nat} {oi : Oper} {d : Nat} {f : Nat} {l : Array Bool} (is : List Nat) (hi : ops[i]? = some oi) (hs : (Region.noSelect ops && Region.free .any ops l i && (Region.ready .any ops l).contains i && closedB .any ops l && (l.size == ops.size) && (kb != i) && (dep .any ops i ops.size kb || Nat.ble ops.size kb)) = true)
    (hw : wantS ops s oi = some false) (hS' : PickM h is hS) (hd : oi.dst = some d) (hN : Nat.blt d X.N = true) (hh : Tr X ((d, undef) :: s) h (AnD P ops K hS kb f (l.setIfInBounds i true))) : Tr X s h (AnD P ops K hS kb (f + 1) l) := fun a w st => by
  simp only [Bool.and_eq_true, beq_iff_eq, bne_iff_ne, ne_eq, Bool.or_eq_true] at hs
  obtain ⟨⟨⟨⟨⟨⟨h1, h2⟩, h3⟩, h4⟩, h5⟩, h6⟩, h7⟩ := hs
  refine wpAnyD_first hi (Region.noSelect_spec h1) (fun c a w hq => hq.elim) h6 f l a w h5 (closedB_spec h4) (h7.imp (fun h => ⟨_, h⟩) (fun h => Nat.le_of_ble_eq_true h)) (Region.free_spec hi h2) (by simpa using h3)
    (.inr ⟨wantS_spec st hw, rfl⟩) (hS'.hok st.ok) ?_
  rw [hd]
  exact hh _ w (st.put (Nat.le_of_ble_eq_true hN) undef)
def EachOp (P : Program) (ops : Array Oper) (X : Cx) (s : List (Nat × Value)) (h : List HA) (K : Jd) (hS : List HA) (kb f : Nat) (l : Array Bool) : List Nat → Prop
  | [] => True
  | i :: r => (∃ o, ops[i]? = some o ∧ wantS ops s o = some true ∧ Tr X s h (Op P o (AnI P ops K hS kb f (l.setIfInBounds i true)) K)) ∧ EachOp P ops X s h K hS kb f l r
theorem EachOp.at {hS : List HA} {kb f : Nat} {l : Array Bool} : ∀ {rs : List Nat}, EachOp P ops X s h K hS kb f l rs → ∀ i ∈ rs, ∃ o, ops[i]? = some o ∧ wantS ops s o = some true ∧ Tr X s h (Op P o (AnI P ops K hS kb f (l.setIfInBounds i true)) K)
  | [], _, i, hi => by cases hi
  | j :: r, hh, i, hi => by
    rcases List.mem_cons.1 hi with rfl | hi
    · exact hh.1
    · exact hh.2.at i hi
/-- Whichever of those that may come up comes up. -/
theorem D_all {hS : List HA} {kb f : Nat} {l : Array Bool} (rs : List Nat) (hr : Region.ready .any ops l = rs) (hne : rs ≠ []) (hh : EachOp P ops X s h K hS kb f l rs) : Tr X s h (AnD P ops K hS kb (f + 1) l) := fun a w st =>
  ⟨fun h0 => absurd (hr ▸ h0) hne, fun i hi => by
    obtain ⟨o, ho, hw, ht⟩ := hh.at i (hr ▸ hi)
    unfold wpOp
    simp only [ho]
    rw [if_pos (wantS_spec st hw)]
    exact .inl (ht a w st)⟩
theorem D_one {hS : List HA} {kb f : Nat} {l : Array Bool} (i : Nat) (o : Oper) (ho : ops[i]? = some o) (hr : (Region.ready .any ops l == [i]) = true) (hw : wantS ops s o = some true) (hh : Tr X s h (Op P o (AnI P ops K hS kb f (l.setIfInBounds i true)) K)) : Tr X s h (AnD P ops K hS kb (f + 1) l) :=
  D_all [i] (by simpa using hr) (by simp) ⟨⟨o, ho, hw, hh⟩, trivial⟩
theorem D_on {hS : List HA} {kb f : Nat} {l : Array Bool} (is : List Nat) (hp : PickM h is hS) (hh : Tr X s h (AnD P ops K hS kb f l)) : Tr X s h (AnI P ops K hS kb f l) := fun a w st => ⟨fun _ => hp.hok st.ok, hh a w st⟩
theorem D_past {hS : List HA} {kb f : Nat} {l : Array Bool} (hk : l.getD kb false = true) (hh : Tr X s h (AnD P ops K hS kb f l)) : Tr X s h (AnI P ops K hS kb f l) := fun a w st => ⟨fun e => (by rw [hk] at e; cases e), hh a w st⟩
theorem D_done {hS : List HA} {kb f : Nat} {l : Array Bool} (hr : (Region.ready .any ops l).isEmpty = true) (hh : Tr X s h K) : Tr X s h (AnD P ops K hS kb f l) := fun a w st => by
  have hr' : Region.ready .any ops l = [] := List.isEmpty_iff.1 hr
  cases f with
  | zero => exact ⟨hr', hh a w st⟩
  | succ f => exact ⟨fun _ => hh a w st, by rw [hr']; simp⟩
theorem T_regD {F : Fence} {n : Nat} {nrm ret : Jd} {ex : List (Nat × Jd)} {id : Nat} {os : List Oper} (hS : List HA) (kb : Nat) (f : Nat) (l : Array Bool) (hF : Wid F) (hm : P.follows .mixedOrders = true) (hd : (noDefer os && (f == os.toArray.size) && (l == Array.replicate os.toArray.size false)) = true) (hh : Tr X s h (AnD P os.toArray nrm hS kb f l)) : Tr X s h (Wp F n P ⟨nrm, ret, ex⟩ (.region id os.toArray true)) := by
  simp only [Bool.and_eq_true, beq_iff_eq] at hd
  obtain ⟨⟨h1, rfl⟩, rfl⟩ := hd
  exact T_regd hF hm h1 (fun a w st => wpAny_of_D _ _ _ _ (hh a w st))
end
end Go.Proofs.Ytlplpmkdebemnaa.Fw
