/- A range over a function, by facts: the sequence's side and the loop's side. No conditions. -/
import Derived.Test.YtlplpmkdebemnaaFwM
import Derived.RangeFuncNested
import Derived.RangeFuncBound
import Derived.RangeFuncCalls
import Derived.RangeFuncLeaves
namespace Go.Proofs.Ytlplpmkdebemnaa.Fw
set_option linter.unusedVariables false
set_option linter.unusedSimpArgs false
open Go.RowKit Bv
abbrev JJ := Nat → List Nat → List Nat → World → Prop
abbrev JX := List Nat → List Nat → World → Prop
/-- What a round owes to the sequence. -/
def YP (J : JJ) (Jx : JX) (k : Nat) (hd : List HA) (O R : List Nat) (W1 : World) (e : Ending) (W' : World) : Prop :=
  ∃ O' R', (∀ i ∈ O', i ∈ O ∨ W1.heap.size ≤ i) ∧ (∀ i ∈ R', i ∈ O ∨ i ∈ R ∨ i ∈ hd.flatMap HA.rids ∨ W1.heap.size ≤ i) ∧ Keep O W1 W' ∧ (∀ i ∈ O' ++ R', i < W'.heap.size) ∧
    ((e = .returned (.bool true) ∧ J (k + 1) O' R' W') ∨ (e = .returned (.bool false) ∧ Jx O' R' W'))
def Yls {Θ : Type} (P : Program) (l : Nat) (J : JJ) (Jx : JX) (nv : Nat) (xs : Nat → Θ → List Value) (hd : Nat → Θ → List HA) : Prop :=
  ∀ k θ O R W1 m, k < nv → J k O R W1 → HOK (hd k θ) W1 → (∀ x ∈ hd k θ, ∀ r ∈ x.rids, r ∉ O) → YieldAt Fence.wide m P l (xs k θ).toArray W1 (YP J Jx k (hd k θ) O R W1)
/-- A sequence: it tells nv things, one behind the other, as long as it is told to go on (E: it has no end; who ranges over it stops ahead of the nv-th). -/
def SeqX (E : Bool) {Θ : Type} (P : Program) (gf : FuncId) (cap : List Value) (rds : List HA) (nv : Nat) (xs : Nat → Θ → List Value) (hd : Nat → Θ → List HA) : Prop :=
  ∀ (l : Nat) (J : JJ) (Jx : JX) (W : World) (O R : List Nat) (m : Nat), HOK rds W → (∀ x ∈ rds, ∀ r ∈ x.rids, r ∉ O) → (∀ k O R, Stab W.heap.size (O ++ R) (J k O R)) → (∀ O R, Stab W.heap.size (O ++ R) (Jx O R)) → (∀ i ∈ O ++ R, i < W.heap.size) →
    Yls P l J Jx nv xs hd → (E = true → ∀ O R W, ¬ J nv O R W) → J 0 O R W →
    CallsIn Fence.wide m P gf (.func (.yield l) #[] #[] :: cap).toArray W (fun e W' => (∃ v, e = .returned v) ∧ ∃ O' R', (J nv O' R' W' ∨ Jx O' R' W'))
abbrev SeqC {Θ : Type} (P : Program) (gf : FuncId) (cap : List Value) (rds : List HA) (nv : Nat) (xs : Nat → Θ → List Value) (hd : Nat → Θ → List HA) : Prop := SeqX false P gf cap rds nv xs hd
def OpI (F : Fence) (n : Nat) (P : Program) (o : Oper) (K K0 : Jd) : Jd := fun a w => o.wpIn F n P a w K (QK K0)
def LsI (F : Fence) (n : Nat) (P : Program) (ops : Array Oper) (K : Jd) (os : List Oper) : Jd := fun a w => wpListIn F n P ops (QK K) os a w
def noDef (o : Oper) : Bool := match o.op with | .defer _ => false | _ => true
section
variable {F : Fence} {n : Nat} {P : Program} {X : Cx} {s : List (Nat × Value)} {h : List HA} {nrm ret K K0 : Jd} {ex : List (Nat × Jd)} {o : Oper} {ops : Array Oper}
theorem T_regI {id : Nat} {os : List Oper} (hh : Tr X s h (LsI F n P os.toArray nrm os)) : Tr X s h (Wp F n P ⟨nrm, ret, ex⟩ (.region id os.toArray false)) := fun a w st =>
  wpIn_mono (wpIn_region_lit (hh a w st)) (fun e a w hq => by cases e <;> first | exact hq | exact hq.elim)
theorem LI_nil (hh : Tr X s h K) : Tr X s h (LsI F n P ops K []) := fun a w st => hh a w st
theorem LI_op {os : List Oper} (hw : wantS ops s o = some true) (hh : Tr X s h (OpI F n P o (LsI F n P ops K os) K)) : Tr X s h (LsI F n P ops K (o :: os)) := fun a w st => by
  unfold LsI wpListIn
  rw [if_pos (wantS_spec st hw)]
  exact hh a w st
theorem opI {F : Fence} (hF : Wid F) (hd : noDef o = true) (hh : Tr X s h (Op P o K K0)) : Tr X s h (OpI F n P o K K0) := fun a w st => by
  rcases hF with rfl | ⟨l, rfl⟩
  · exact op_wide (hh a w st)
  · refine op_in (l := l) (fun c hc => ?_) (hh a w st)
    unfold noDef at hd; rw [hc] at hd; cases hd
theorem LI_opP {os : List Oper} (hF : Wid F) (hw : wantS ops s o = some true) (hd : noDef o = true) (hh : Tr X s h (Op P o (LsI F n P ops K os) K)) : Tr X s h (LsI F n P ops K (o :: os)) := LI_op hw (opI hF hd hh)
theorem LI_skip {os : List Oper} {d : Nat} (hF : Wid F) (hw : wantS ops s o = some false) (hd : o.dst = some d) (hN : Nat.blt d X.N = true) (hh : Tr X ((d, undef) :: s) h (LsI F n P ops K os)) : Tr X s h (LsI F n P ops K (o :: os)) := fun a w st => by
  unfold LsI wpListIn
  rw [if_neg (by rw [wantS_spec st hw]; exact Bool.false_ne_true), hd]
  refine ⟨fun f _ => ?_, hh _ w (st.put (Nat.le_of_ble_eq_true hN) undef)⟩
  rcases hF with rfl | ⟨l, rfl⟩ <;> trivial
/-- The sequence tells something. -/
theorem op_yield {Θ : Type} {l B nv k : Nat} {J : JJ} {Jx : JX} {O R : List Nat} {xs : Nat → Θ → List Value} {hd : Nat → Θ → List HA} (θ : Θ) (hy : Yls P l J Jx nv xs hd) (hk : k < nv) (hsJ : ∀ k O R, Stab B (O ++ R) (J k O R)) (hsX : ∀ O R, Stab B (O ++ R) (Jx O R)) (i : Nat) (hi : h[i]? = some (.inv B O R (J k O R))) (is : List Nat) (hp : PickM h is (hd k θ)) (hone : (h.eraseIdx i).all (fun x => x.bs.isNone) = true) (hdn : (hd k θ).all (fun x => x.bs.isNone) = true)
    {c : Operand} {ys : List Operand} {ts : Array TypeId} {d : Nat} (ho : o.op = .call { callee := .value c, args := ys.toArray, argTypes := ts }) (hc : ev s c = some (.func (.yield l) #[] #[])) (hys : ys.map (ev s) = (xs k θ).map some) (hds : o.dst = some d) (hN : Nat.blt d X.N = true) (hXw : X.w0.heap.size = 0) (hrs : ∀ r, X.rs r)
    (ht : ∀ O' R', Tr X ((d, .bool true) :: s) (.inv B O' R' (J (k + 1) O' R') :: h.eraseIdx i) K) (hf : ∀ O' R', Tr X ((d, .bool false) :: s) (.inv B O' R' (Jx O' R') :: h.eraseIdx i) K) : Tr X s h (OpI Fence.wide n P o K K0) := fun a w st => by
  have hinv : (HA.inv B O R (J k O R)).ok w := st.ok _ (List.mem_of_getElem? hi)
  have hmi := List.mem_of_getElem? hi
  have hdm : ∀ x ∈ hd k θ, x ∈ h := by
    intro x hx
    have : some x ∈ is.map (h[·]?) := by rw [hp]; exact List.mem_map.2 ⟨x, hx, rfl⟩
    obtain ⟨j, _, hj⟩ := List.mem_map.1 this
    exact List.mem_of_getElem? hj
  have hdb : ∀ x ∈ hd k θ, x.bs = none := fun x hx => by have := List.all_eq_true.1 hdn x hx; simpa using this
  obtain ⟨fn, tmps, assign, body, he, hr⟩ := hy k θ O R w (n - 1) hk hinv.1 (hp.hok st.ok) (fun x hx r hr hrO => st.iv _ hmi r hrO x (hdm x hx) (hdb x hx) hr)
  have key : ∀ (l : List Operand) (r : List Value), l.map (ev s) = r.map some → l.map a.eval = r := by
    intro l
    induction l with
    | nil => intro r hr; cases r with | nil => rfl | cons _ _ => simp at hr
    | cons b l ih => intro r hr; cases r with
      | nil => simp at hr
      | cons c r => simp only [List.map_cons, List.cons.injEq] at hr ⊢; exact ⟨st.ag _ _ hr.1, ih r hr.2⟩
  have hrun : (execOp a.eval o).run P w = .ok (.round l fn tmps assign body) w := by
    unfold execOp; rw [ho]
    simp [resolve, st.ag _ _ hc, Deferred.ofValue, invoke, key ys _ hys, he]
  refine ⟨fun f _ => trivial, ?_⟩
  rw [show Oper.semAt Fence.wide.round a.eval o = execOp a.eval o from rfl, hrun, Oper.uponIn_round]
  refine ⟨fun h => absurd h (by simp [Fence.wide]), hr.mono fun e W' hYP => ?_⟩
  obtain ⟨O', R', hO', hR', hkO, hlt, hend⟩ := hYP
  have hidO : ∀ y ∈ h, ∀ c ∈ y.ids, c ∉ O ++ R := fun y hy c hc hin => st.dj _ hmi y hy c hin hc
  have hperm := perm_erase h i _ hi
  have hsub : ∀ x, x ∈ h.eraseIdx i → x ∈ h := fun x hx => hperm.mem_iff.2 (List.mem_cons_of_mem _ hx)
  have hbn : ∀ x ∈ h.eraseIdx i, x.bs = none := fun x hx => by have := List.all_eq_true.1 hone x hx; simpa using this
  have hosn : ∀ x : HA, x.bs = none → x.os = [] := fun x hx => by cases x <;> first | rfl | (cases hx; done)
  obtain ⟨hC, hB⟩ := st.ib _ hmi B rfl
  have fin : ∀ (v : Value) (p : World → Prop), p W' → Stab B (O' ++ R') p → St X ((d, v) :: s) (.inv B O' R' p :: h.eraseIdx i) (a.put (some d) v) W' := by
    intro v p hpW hst
    have sp := st.put (Nat.le_of_ble_eq_true hN) v
    refine ⟨sp.sz, sp.df, sp.sl, ⟨st.kp.same.trans hkO.same, fun q hq => by omega⟩, ?_, ⟨st.ll.1, Nat.le_trans st.ll.2 hkO.same.size⟩, ?_, ?_, ?_, ?_, ?_, ⟨st.rk.1, fun x _ r _ => .inl (hrs r)⟩⟩
    · intro x hx
      rcases List.mem_cons.1 hx with rfl | hx
      · exact ⟨hpW, hst, hlt⟩
      · refine HA.ok_keep (st.ok x (hsub x hx)) hkO.same (fun c hc => hkO.block c (HA.lt (st.ok x (hsub x hx)) c hc) (fun hcO => ?_)) (fun B' hB' => by rw [hbn x hx] at hB'; cases hB')
        rcases List.mem_append.1 hc with hc | hc
        · exact hidO x (hsub x hx) c hc (List.mem_append.2 (.inl hcO))
        · exact st.iv _ hmi c hcO x (hsub x hx) (hbn x hx) hc
    · intro x hx c hc
      rcases List.mem_cons.1 hx with rfl | hx
      · cases hc
      · exact st.fr x (hsub x hx) c hc
    · have := (hperm.flatMap_right HA.ids).nodup_iff.1 st.nd
      simpa [HA.ids] using this
    · intro x hx y hy r hr hry
      have hyy : y ∈ h := by
        rcases List.mem_cons.1 hy with rfl | hy
        · cases hry
        · exact hsub y hy
      have hrlt := HA.lt (st.ok y hyy) r (List.mem_append.2 (.inl hry))
      rcases List.mem_cons.1 hx with rfl | hx
      · rcases List.mem_append.1 hr with hr | hr
        · rcases hO' r hr with h1 | h1
          · exact hidO y hyy r hry (List.mem_append.2 (.inl h1))
          · omega
        · rcases hR' r hr with h1 | h1 | h1 | h1
          · exact hidO y hyy r hry (List.mem_append.2 (.inl h1))
          · exact hidO y hyy r hry (List.mem_append.2 (.inr h1))
          · obtain ⟨z, hz, hzr⟩ := List.mem_flatMap.1 h1
            exact st.dj z (hdm z hz) y hyy r hzr hry
          · omega
      · exact st.dj x (hsub x hx) y hyy r hr hry
    · intro x hx q hq y hy hyb hqr
      rcases List.mem_cons.1 hx with rfl | hx
      · rcases List.mem_cons.1 hy with rfl | hy
        · cases hyb
        · rcases hO' q hq with h1 | h1
          · exact st.iv _ hmi q h1 y (hsub y hy) hyb hqr
          · have := HA.lt (st.ok y (hsub y hy)) q (List.mem_append.2 (.inr hqr)); omega
      · rw [hosn x (hbn x hx)] at hq; cases hq
    · intro x hx B' hB'
      rcases List.mem_cons.1 hx with rfl | hx
      · cases hB'; exact ⟨hC, hB⟩
      · rw [hbn x hx] at hB'; cases hB'
  rw [hds]
  rcases hend with ⟨rfl, hJ⟩ | ⟨rfl, hJ⟩
  · exact ht O' R' _ _ (fin _ _ hJ (hsJ _ _ _))
  · exact hf O' R' _ _ (fin _ _ hJ (hsX _ _))
end
/-- Where a sequence's function begins. -/
theorem enter_seq {E : Bool} {P : Program} {gf : FuncId} {fn : Func} {c : Code} {Θ : Type} {nv : Nat} {xs : Nat → Θ → List Value} {hd : Nat → Θ → List HA} {cap : List Value} {rds : List HA} (hf : P.funcs[gf]? = some fn) (hb : fn.body = some c) (hN : Nat.ble (cap.length + 1) fn.ntmps = true) (hrd : rds.all rdB = true)
    (hh : ∀ (l : Nat) (J : JJ) (Jx : JX) (W : World) (O R : List Nat), (∀ k O R, Stab W.heap.size (O ++ R) (J k O R)) → (∀ O R, Stab W.heap.size (O ++ R) (Jx O R)) → Yls P l J Jx nv xs hd → (E = true → ∀ O R W, ¬ J nv O R W) →
      Tr ⟨fn.ntmps, [], { W with heap := #[] }, W.heap.size, fun _ => True, []⟩ (enumS 0 (.func (.yield l) #[] #[] :: cap)) (.inv W.heap.size O R (J 0 O R) :: rds)
        (Wp Fence.wide 9 P ⟨RetJ P fn (fun e W' => (∃ v, e = .returned v) ∧ ∃ O' R', (J nv O' R' W' ∨ Jx O' R' W')), RetJ P fn (fun e W' => (∃ v, e = .returned v) ∧ ∃ O' R', (J nv O' R' W' ∨ Jx O' R' W')), []⟩ c)) : SeqX E P gf cap rds nv xs hd := by
  intro l J Jx W O R m hrW hrO hsJ hsX hlt hy hend h0
  have hrb : ∀ x ∈ rds, x.ids = [] ∧ x.frs = [] ∧ x.os = [] ∧ x.bs = none := fun x hx => by
    have := List.all_eq_true.1 hrd x hx
    cases x <;> first | exact ⟨rfl, rfl, rfl, rfl⟩ | (cases this; done)
  have st : St ⟨fn.ntmps, [], { W with heap := #[] }, W.heap.size, fun _ => True, []⟩ (enumS 0 (.func (.yield l) #[] #[] :: cap)) (.inv W.heap.size O R (J 0 O R) :: rds) { tmps := (.func (.yield l) #[] #[] :: cap).toArray ++ Array.replicate (fn.ntmps - (.func (.yield l) #[] #[] :: cap).toArray.size) undef, defers := [] } W := by
    have hNN := Nat.le_of_ble_eq_true hN
    refine ⟨by simp; omega, rfl, ?_, ⟨⟨rfl, rfl, rfl, by simp⟩, fun k hk => by simp at hk⟩, ?_, ⟨by simp, Nat.le_refl _⟩, ?_, ?_, ?_, ?_, ?_, ⟨fun _ _ => trivial, fun _ _ _ _ => .inl trivial⟩⟩
    · intro k v hk
      have h1 := (enumS_spec _ 0 k v hk).2
      rw [Nat.sub_zero] at h1
      have h2 := (List.getElem?_eq_some_iff.1 h1).1
      rw [Array.getElem?_append_left (by simpa using h2)]
      simpa using h1
    · intro x hx
      rcases List.mem_cons.1 hx with rfl | hx
      · exact ⟨h0, hsJ _ _ _, hlt⟩
      · exact hrW x hx
    · intro x hx k hk
      rcases List.mem_cons.1 hx with rfl | hx
      · cases hk
      · rw [(hrb x hx).2.1] at hk; cases hk
    · have : rds.flatMap HA.ids = [] := List.flatMap_eq_nil_iff.2 fun x hx => (hrb x hx).1
      simp [HA.ids, this]
    · intro x hx y hy r hr hry
      rcases List.mem_cons.1 hy with rfl | hy
      · cases hry
      · rw [(hrb y hy).1] at hry; cases hry
    · intro x hx q hq y hy hyb hqr
      rcases List.mem_cons.1 hx with rfl | hx
      · rcases List.mem_cons.1 hy with rfl | hy
        · cases hyb
        · exact hrO y hy q hqr hq
      · rw [(hrb x hx).2.2.1] at hq; cases hq
    · intro x hx B hB
      rcases List.mem_cons.1 hx with rfl | hx
      · cases hB; exact ⟨rfl, Nat.le_refl _⟩
      · rw [(hrb x hx).2.2.2] at hB; cases hB
  have h9 : CallsIn Fence.wide 9 P gf (.func (.yield l) #[] #[] :: cap).toArray W (fun e W' => (∃ v, e = .returned v) ∧ ∃ O' R', (J nv O' R' W' ∨ Jx O' R' W')) := by
    refine callsIn_of_wp hf hb trivial (wpIn_mono (hh l J Jx W O R hsJ hsX hy hend _ _ st) (fun e a w hq => ?_)) rfl
    cases e with
    | normal => exact hq
    | ret => exact hq
    | exit i => obtain ⟨_, hj, _⟩ := hq; cases hj
    | goto _ => exact hq.elim
    | panic _ => exact hq.elim
    | outgrown => exact hq.elim
  exact callsIn_wide.2 (callsIn_wide.1 h9)
section
variable {P : Program} {fn : Func} {X : Cx} {s : List (Nat × Value)} {h : List HA}
theorem T_finJ {nv B : Nat} {J : JJ} {Jx : JX} {O R : List Nat} (hX : X.ds = []) (hr : fn.results = #[]) (i : Nat) (hi : h[i]? = some (.inv B O R (J nv O R))) : Tr X s h (RetJ P fn (fun e W' => (∃ v, e = .returned v) ∧ ∃ O' R', (J nv O' R' W' ∨ Jx O' R' W'))) := fun a w st =>
  ⟨st.df.trans hX, .tuple #[], by simp [results, hr, go_sem], ⟨_, rfl⟩, O, R, .inl (st.ok _ (List.mem_of_getElem? hi) : (HA.inv B O R (J nv O R)).ok w).1⟩
theorem T_finX {nv B : Nat} {J : JJ} {Jx : JX} {O R : List Nat} (hX : X.ds = []) (hr : fn.results = #[]) (i : Nat) (hi : h[i]? = some (.inv B O R (Jx O R))) : Tr X s h (RetJ P fn (fun e W' => (∃ v, e = .returned v) ∧ ∃ O' R', (J nv O' R' W' ∨ Jx O' R' W'))) := fun a w st =>
  ⟨st.df.trans hX, .tuple #[], by simp [results, hr, go_sem], ⟨_, rfl⟩, O, R, .inr (st.ok _ (List.mem_of_getElem? hi) : (HA.inv B O R (Jx O R)).ok w).1⟩
end
/-! The loop's side. -/
theorem os_of_bs {x : HA} (h : x.bs = none) : x.os = [] := by cases x <;> first | rfl | (cases h; done)
theorem St.stab {X : Cx} {s : List (Nat × Value)} {h : List HA} {a : Act} {w w' : World} (st : St X s h a w) {B : Nat} (hB : X.w0.heap.size ≤ B) (hn : ∀ x ∈ h, x.bs = none) (hs : Same w w') (hb : ∀ i, i < B → w'.heap[i]? = w.heap[i]?) (hi : ∀ i ∈ h.flatMap HA.ids ++ h.flatMap HA.rids, w'.heap[i]? = w.heap[i]?) : St X s h a w' :=
  ⟨st.sz, st.df, st.sl, ⟨st.kp.same.trans hs, fun k hk hn => (hb k (by omega)).trans (st.kp.block k hk hn)⟩,
    fun x hx => HA.ok_keep (st.ok x hx) hs (fun i hin => hi i (by
      rcases List.mem_append.1 hin with h1 | h1
      · exact List.mem_append.2 (.inl (List.mem_flatMap.2 ⟨x, hx, h1⟩))
      · exact List.mem_append.2 (.inr (List.mem_flatMap.2 ⟨x, hx, h1⟩)))) (fun B hB => by rw [hn x hx] at hB; cases hB),
    ⟨st.ll.1, Nat.le_trans st.ll.2 hs.size⟩, st.fr, st.nd, st.dj, st.iv, st.ib, st.rk⟩
/-- The act of one state, the memory of another one. -/
theorem St.act {X : Cx} {s s' : List (Nat × Value)} {h h' : List HA} {a a' : Act} {w w' : World} (st : St X s h a w) (st' : St X s' h' a' w') : St X s h' a w' :=
  ⟨st.sz, st.df, st.sl, st'.kp, st'.ok, st'.ll, st'.fr, st'.nd, st'.dj, st'.iv, st'.ib, st'.rk⟩
theorem St.putobj {X : Cx} {s : List (Nat × Value)} {h : List HA} {a : Act} {w : World} {g : Nat} {ob : Obj} (st : St X s (.obj g ob :: h) a w) (ob' : Obj) : St X s (.obj g ob' :: h) a (w.putObj g ob') := by
  have hg : w.heap[g]? = some ob := st.ok _ (List.mem_cons_self ..)
  have hlt := (Array.getElem?_eq_some_iff.1 hg).1
  refine st.swap [.obj g ob] h [.obj g ob'] (List.Perm.refl _) st.sz st.df st.sl ⟨⟨rfl, rfl, rfl, by simp⟩, fun k _ hk => World.putObj_heap_other (fun e => hk (by simp [HA.ids, e]))⟩ ?_ ?_ ?_ ?_
  · intro x hx; rw [List.mem_singleton] at hx; subst hx; exact World.putObj_heap_same hlt
  · intro x hx k hk; rw [List.mem_singleton] at hx; subst hx; exact .inl (by simpa [HA.ids, HA.frs] using hk)
  · simp [HA.ids]
  · intro x hx r hr; rw [List.mem_singleton] at hx; subst hx; cases hr
theorem St.newobj {X : Cx} {s : List (Nat × Value)} {h : List HA} {a : Act} {w : World} (st : St X s h a w) (ob : Obj) : St X s (.obj w.heap.size ob :: h) a (w.alloc ob) := by
  refine st.swap [] h [.obj w.heap.size ob] (List.Perm.refl _) st.sz st.df st.sl (keep_alloc w _) ?_ ?_ ?_ ?_
  · intro x hx; rw [List.mem_singleton] at hx; subst hx; exact World.alloc_heap_new w _
  · intro x hx k hk; rw [List.mem_singleton] at hx; subst hx; simp [HA.frs] at hk; subst hk; exact .inr (Nat.le_refl _)
  · simp [HA.ids]
  · intro x hx r hr; rw [List.mem_singleton] at hx; subst hx; cases hr
/-- Rows that are read, told beside. -/
theorem St.addrd {X : Cx} {s : List (Nat × Value)} {h : List HA} {a : Act} {w : World} (st : St X s h a w) (hd : List HA) (hk : HOK hd w) (hb : hd.all rdB = true) (hn : ∀ x ∈ h, x.bs = none) (hr : ∀ x ∈ hd, ∀ r ∈ x.rids, r ∉ h.flatMap HA.ids) (hrs : ∀ x ∈ hd, ∀ r ∈ x.rids, X.rs r) : St X s (hd ++ h) a w := by
  have hrb : ∀ x ∈ hd, x.ids = [] ∧ x.frs = [] ∧ x.os = [] ∧ x.bs = none := fun x hx => by
    have := List.all_eq_true.1 hb x hx
    cases x <;> first | exact ⟨rfl, rfl, rfl, rfl⟩ | (cases this; done)
  refine ⟨st.sz, st.df, st.sl, st.kp, ?_, st.ll, ?_, ?_, ?_, ?_, ?_, ⟨st.rk.1, fun x hx r hrr => (List.mem_append.1 hx).elim (fun hx => .inl (hrs x hx r hrr)) (fun hx => st.rk.2 x hx r hrr)⟩⟩
  · intro x hx
    rcases List.mem_append.1 hx with hx | hx
    · exact hk x hx
    · exact st.ok x hx
  · intro x hx k hkf
    rcases List.mem_append.1 hx with hx | hx
    · rw [(hrb x hx).2.1] at hkf; cases hkf
    · exact st.fr x hx k hkf
  · rw [List.flatMap_append, List.flatMap_eq_nil_iff.2 fun x hx => (hrb x hx).1]
    simpa using st.nd
  · intro x hx y hy r hrr hry
    rcases List.mem_append.1 hy with hy | hy
    · rw [(hrb y hy).1] at hry; cases hry
    · rcases List.mem_append.1 hx with hx | hx
      · exact hr x hx r hrr (List.mem_flatMap.2 ⟨y, hy, hry⟩)
      · exact st.dj x hx y hy r hrr hry
  · intro x hx q hq
    rcases List.mem_append.1 hx with hx | hx
    · rw [(hrb x hx).2.2.1] at hq; cases hq
    · rw [os_of_bs (hn x hx)] at hq; cases hq
  · intro x hx B hB
    rcases List.mem_append.1 hx with hx | hx
    · rw [(hrb x hx).2.2.2] at hB; cases hB
    · exact st.ib x hx B hB
theorem rdv_part3 {w : World} {A : Option Addr} {z n c l u : Nat} {cs : List Value} (hr : RdV w A z n c cs) (h1 : l ≤ u) (h2 : u ≤ n) : RdV w (if u = l then A else A.map (·.add (l * z))) z (u - l) (u - l) ((cs.drop (l * z)).take ((u - l) * z)) := by
  have hl := hr.len; have hle := hr.le; have hm := hr.most
  have e1 : l * z + (u - l) * z = u * z := by rw [← Nat.add_mul]; congr 1; omega
  have e2 : u * z ≤ n * z := Nat.mul_le_mul_right z h2
  refine ⟨?_, Nat.le_refl _, by omega, ?_, ?_⟩
  · simp only [List.length_take, List.length_drop, hl]; omega
  · intro e
    by_cases hc : u = l
    · omega
    · rw [if_neg hc] at e
      have : A = none := by simpa using e
      have := hr.isn this; omega
  · intro ad e j v hj
    rw [List.getElem?_take] at hj
    split at hj
    case isFalse => cases hj
    case isTrue hjl =>
      rw [List.getElem?_drop] at hj
      by_cases hc : u = l
      · have : u - l = 0 := by omega
        rw [this] at hjl; simp at hjl
      · rw [if_neg hc] at e
        obtain ⟨ad', h3, h4⟩ := Option.map_eq_some_iff.1 e
        have := hr.cells ad' h3 (l * z + j) v hj
        rw [← h4, Addr.add_add]
        exact this
/-- s[l:u:u] of a slice that is read. -/
theorem op_slice3_rd {X : Cx} {s : List (Nat × Value)} {h : List HA} {P : Program} {o : Oper} {K K0 : Jd} {d : Nat} {t e : TypeId} {x lo hi mx : Operand} {A : Option Addr} {z n c l u : Nat} {cs : List Value} {k1 k2 k3 : IntKind} (i : Nat) (hi' : h[i]? = some (.rd A z n c cs)) (hlu : l ≤ u) (hun : u ≤ n) (ht : P.underlying t = some (.slice e)) (hz : (P.info? e).map (·.size) = some z)
    (ho : o.op = .slice t x (some lo) (some hi) (some mx)) (hx : ev s x = some (.slice A n c)) (hl : ev s lo = some (.int k1 (l : Int))) (hu : ev s hi = some (.int k2 (u : Int))) (hm : ev s mx = some (.int k3 (u : Int))) (hd : o.dst = some d) (hN : Nat.blt d X.N = true)
    (hh : ∀ A', Tr X ((d, .slice A' (u - l) (u - l)) :: s) (.rd A' z (u - l) (u - l) ((cs.drop (l * z)).take ((u - l) * z)) :: h) K) : Tr X s h (Op P o K K0) := fun a w st => by
  have hrd := (src_rd i hi' w st.ok).1
  have hr : (execOp a.eval o).run P w = .ok (.value (.slice (if u = l then A else A.map (·.add (l * z))) (u - l) (u - l))) w := by
    have hle := hrd.le
    have g1 : (0 : Int) ≤ (u : Int) ∧ (u : Int) ≤ c := by omega
    have g2 : (0 : Int) ≤ (l : Int) ∧ (l : Int) ≤ u := by omega
    have g3 : ¬ u < l := by omega
    have g4 : u ≤ c := by omega
    have g5 : ¬ c < u := by omega
    unfold execOp; rw [ho]
    simp [st.ag _ _ hx, st.ag _ _ hl, st.ag _ _ hu, st.ag _ _ hm, Instr.sliceAt, run_underlying ht, Instr.slice, Instr.sliceBounds, Instr.sliceBound, asIntOf, g1, g2, g3, g4, g5, hlu, run_sizeOf hz]
  refine op_val hr ?_
  rw [hd]
  have st' := st.put (Nat.le_of_ble_eq_true hN) (.slice (if u = l then A else A.map (·.add (l * z))) (u - l) (u - l))
  refine T_part i hi' (fun w hw => rdv_part3 (src_rd i hi' w hw).1 hlu hun) ?_ (by have := (src_rd i hi' _ st.ok).1.le; omega) (hh _) _ _ st'
  intro ad e
  by_cases hc : u = l
  · rw [if_pos hc] at e; exact ⟨ad, e, rfl⟩
  · rw [if_neg hc] at e
    obtain ⟨ad', h3, h4⟩ := Option.map_eq_some_iff.1 e
    exact ⟨ad', h3, by rw [← h4, add_block]⟩
/-- What a sequence is asked to read. -/
def HA.asrd : HA → HA
  | .old A z n c cs => .rd A z n c cs
  | x => x
theorem asrd_ok {x : HA} {w : World} (h : x.ok w) : x.asrd.ok w := by cases x <;> exact h
theorem asrd_rids (x : HA) : x.asrd.rids = x.rids := by cases x <;> rfl
/-- A round has begun: the assignments to the loop's variables are over. -/
def Begun (l m : Nat) (P : Program) (X : Cx) (rec : Loop) (k : Ks) (body : Code) : Jd := fun a w =>
  ∃ w₂, (Instr.beginRound l).run P w = .ok () w₂ ∧ Wp (Fence.wide.inRound l) m P k body a w₂
theorem T_begun {l m : Nat} {P : Program} {X : Cx} {rec : Loop} {k : Ks} {body : Code} {s : List (Nat × Value)} {h : List HA} (i : Nat) (hi : h[i]? = some (.obj l (.loop rec))) (hrec : rec.state = .ready) (hh : Tr X s (.obj l (.loop { rec with state := .busy }) :: h.eraseIdx i) (Wp (Fence.wide.inRound l) m P k body)) : Tr X s h (Begun l m P X rec k body) := fun a w st => by
  have st1 := st.perm (perm_erase h i _ hi)
  have hl : w.heap[l]? = some (.loop rec) := st1.ok _ (List.mem_cons_self ..)
  exact ⟨_, run_beginRound hl hrec, hh a _ (st1.putobj _)⟩
/-- How a round ends: on, or by a jump. -/
def RoundOn {T : Type} (l D : Nat) (X : Cx) (rec : Loop) (q : T → Prop) (η : T → List HA) : Jd := fun a w => ∃ t, q t ∧ St X [] (.obj l (.loop { rec with state := .busy }) :: .obj D (.deferred (some [])) :: η t) a w
theorem T_on {T : Type} {l D : Nat} {X : Cx} {rec : Loop} {q : T → Prop} {η : T → List HA} {s : List (Nat × Value)} {h : List HA} (t : T) (hq : q t) (is : List Nat) (hp : Pick h is (.obj l (.loop { rec with state := .busy }) :: .obj D (.deferred (some [])) :: η t)) : Tr X s h (RoundOn l D X rec q η) := fun a w st =>
  ⟨t, hq, (st.slots (s' := []) (fun k v e => by cases e)).pick hp⟩
def slotsOf : List Nat → List Value → List (Nat × Value)
  | p :: ps, v :: vs => slotsOf ps vs ++ [(p, v)]
  | _, _ => []
theorem lookup_app {β : Type} : ∀ (l r : List (Nat × β)) (k : Nat), (l ++ r).lookup k = (l.lookup k).or (r.lookup k)
  | [], r, k => by simp
  | (j, v) :: l, r, k => by
    rw [List.cons_append, List.lookup_cons, List.lookup_cons]
    split
    · rfl
    · exact lookup_app l r k
theorem slotsOf_spec : ∀ (ps : List Nat) (vs : List Value) (t : Array Value) (s : List (Nat × Value)), (∀ p ∈ ps, p < t.size) → (∀ k v, s.lookup k = some v → t[k]? = some v) → ∀ k v, (slotsOf ps vs ++ s).lookup k = some v → ((ps.zip vs).foldl (fun (t : Array Value) (q : Nat × Value) => t.setIfInBounds q.1 q.2) t)[k]? = some v
  | [], vs, t, s, _, hs, k, v, e => by cases vs <;> exact hs k v e
  | p :: ps, [], t, s, _, hs, k, v, e => hs k v e
  | p :: ps, u :: us, t, s, hp, hs, k, v, e => by
    rw [List.zip_cons_cons, List.foldl_cons]
    refine slotsOf_spec ps us (t.setIfInBounds p u) ((p, u) :: s) (fun q hq => by simpa using hp q (List.mem_cons_of_mem _ hq)) ?_ k v ?_
    · intro k v e
      rw [List.lookup_cons] at e
      rw [Array.getElem?_setIfInBounds]
      by_cases hk : k = p
      · subst hk; simp at e; subst e; simp [hp k (List.mem_cons_self ..)]
      · have h2 : (k == p) = false := by simpa using hk
        rw [h2] at e
        rw [if_neg (fun e => hk e.symm)]; exact hs k v e
    · have e' : ((slotsOf ps us ++ [(p, u)]) ++ s).lookup k = some v := e
      rwa [List.append_assoc] at e'
theorem foldl_size : ∀ (l : List (Nat × Value)) (t : Array Value), (l.foldl (fun (t : Array Value) (q : Nat × Value) => t.setIfInBounds q.1 q.2) t).size = t.size
  | [], t => rfl
  | q :: l, t => by rw [List.foldl_cons, foldl_size l]; simp
def HA.plainB : HA → Bool
  | .blk _ _ _ => true
  | .row _ _ _ _ _ => true
  | .rd _ _ _ _ _ => true
  | .all _ => true
  | .obj _ _ => true
  | _ => false
theorem plain_bs {x : HA} (h : x.plainB = true) : x.bs = none := by cases x <;> first | rfl | (cases h; done)
theorem plain_frs {x : HA} (h : x.plainB = true) : x.frs = x.ids := by cases x <;> first | rfl | (cases h; done)
/-- A row given up is a row that is read. -/
theorem T_tord {X : Cx} {s : List (Nat × Value)} {h : List HA} {J : Jd} (i : Nat) {A : Option Addr} {z n c : Nat} {cs : List Value} (hi : h[i]? = some (.old A z n c cs)) (hh : Tr X s (.rd A z n c cs :: h.eraseIdx i) J) : Tr X s h J := fun a w st => by
  have st1 := st.perm (perm_erase h i _ hi)
  refine hh a w ⟨st1.sz, st1.df, st1.sl, st1.kp, ?_, st1.ll, ?_, by simpa [HA.ids] using st1.nd, ?_, ?_, ?_, ⟨st1.rk.1, ?_⟩⟩
  · intro x hx
    rcases List.mem_cons.1 hx with rfl | hx
    · exact (st1.ok _ (List.mem_cons_self ..) : (HA.old A z n c cs).ok w)
    · exact st1.ok x (List.mem_cons_of_mem _ hx)
  · intro x hx k hk
    rcases List.mem_cons.1 hx with rfl | hx
    · cases hk
    · exact st1.fr x (List.mem_cons_of_mem _ hx) k hk
  · intro x hx y hy r hr hry
    rcases List.mem_cons.1 hy with rfl | hy
    · cases hry
    · rcases List.mem_cons.1 hx with rfl | hx
      · exact st1.dj (.old A z n c cs) (List.mem_cons_self ..) y (List.mem_cons_of_mem _ hy) r hr hry
      · exact st1.dj x (List.mem_cons_of_mem _ hx) y (List.mem_cons_of_mem _ hy) r hr hry
  · intro x hx q hq y hy hyb hqr
    rcases List.mem_cons.1 hx with rfl | hx
    · cases hq
    · rcases List.mem_cons.1 hy with rfl | hy
      · exact st1.iv x (List.mem_cons_of_mem _ hx) q hq (.old A z n c cs) (List.mem_cons_self ..) rfl hqr
      · exact st1.iv x (List.mem_cons_of_mem _ hx) q hq y (List.mem_cons_of_mem _ hy) hyb hqr
  · intro x hx B hB
    rcases List.mem_cons.1 hx with rfl | hx
    · cases hB
    · exact st1.ib x (List.mem_cons_of_mem _ hx) B hB
  · intro x hx r hr
    rcases List.mem_cons.1 hx with rfl | hx
    · exact st1.rk.2 (.old A z n c cs) (List.mem_cons_self ..) r hr
    · exact st1.rk.2 x (List.mem_cons_of_mem _ hx) r hr
/-- What a function that holds a range over a function owes at its end. -/
def RetM (P : Program) (fn : Func) (R : Ending → World → Prop) : Jd := fun a w => LeavesInM Fence.wide 9 P fn a.tmps R a.defers .returning w
theorem enter_m {P : Program} {f : FuncId} {fn : Func} {c : Code} {R : Ending → World → Prop} {w : World} (hf : P.funcs[f]? = some fn) (hb : fn.body = some c) (C : List Nat) (args : List Value) (h : List HA) (hN : Nat.ble args.length fn.ntmps = true) (hO : Own C h w)
    (hh : Tr ⟨fn.ntmps, C, w, w.heap.size, fun _ => True, []⟩ (enumS 0 args) h (Wp Fence.wide 9 P ⟨RetM P fn R, RetM P fn R, []⟩ c)) : Calls P f args.toArray w R := by
  refine (callsIn_wide (n := 9)).1 (callsIn_of_wp_marks hf hb trivial (wpIn_mono (hh _ _ (st_enter C args h (Nat.le_of_ble_eq_true hN) hO)) (fun e a w hq => ?_)) rfl)
  cases e with
  | normal => exact hq
  | ret => exact hq
  | exit i => obtain ⟨J, hj, _⟩ := hq; cases hj
  | goto _ => exact hq.elim
  | panic _ => exact hq.elim
  | outgrown => exact hq.elim
theorem T_finM0 {P : Program} {fn : Func} {s : List (Nat × Value)} {h : List HA} {N : Nat} {C : List Nat} {w0 : World} {rs : Nat → Prop} {T : Type} {q : T → Prop} {res : T → Value} {hs : T → List HA} (t : T) (hq : q t) (hv : ResV P fn s h (res t)) (is : List Nat) (hp : Pick h is (hs t)) (hr : (hs t).all HA.outB = true) :
    Tr ⟨N, C, w0, w0.heap.size, rs, []⟩ s h (RetM P fn (Ret C w0 q res hs)) := fun a w st => by
  unfold RetM; rw [st.df]
  exact ⟨_, hv _ st.sl _ st.ok, t, hq, rfl, post_of_st (st.pick hp) hr⟩
theorem T_finM {P : Program} {fn : Func} {s : List (Nat × Value)} {h : List HA} {N : Nat} {C : List Nat} {w0 : World} {rs : Nat → Prop} {T : Type} {q : T → Prop} {res : T → Value} {hs : T → List HA} {D : Nat} (i : Nat) (hi : h[i]? = some (.obj D (.deferred (some [])))) (t : T) (hq : q t) (hv : ResV P fn s (h.eraseIdx i) (res t)) (is : List Nat) (hp : Pick (h.eraseIdx i) is (hs t)) (hr : (hs t).all HA.outB = true) :
    Tr ⟨N, C, w0, w0.heap.size, rs, [{ target := .collected D, args := #[] }]⟩ s h (RetM P fn (Ret C w0 q res hs)) := fun a w st => by
  have st1 := st.perm (perm_erase h i _ hi)
  have hD : w.heap[D]? = some (.deferred (some [])) := st1.ok _ (List.mem_cons_self ..)
  have st2 := st1.putobj (.deferred none)
  have st3 : St _ s (h.eraseIdx i) a _ := St.drop (out := [_]) st2
  unfold RetM; rw [st.df]
  refine ⟨by simp, .inl ⟨D, _, rfl, run_takeDeferred hD, ?_⟩⟩
  exact ⟨_, hv _ st3.sl _ st3.ok, t, hq, rfl, post_of_st (st3.pick hp) hr⟩
/-- **A range over a function.** -/
theorem T_range {E : Bool} {Θ T Tx : Type} {n : Nat} {P : Program} {N : Nat} {C : List Nat} {w0 : World} {lo : Nat} {rs : Nat → Prop} {ds : List Deferred} {s : List (Nat × Value)} {h : List HA} {nrm ret : Jd} {ex : List (Nat × Jd)} {g : Operand} {ps : List Nat} {assign body : Code} {gf : FuncId} {cap : List Value} {rds : List HA} {nv : Nat} {xs : Nat → Θ → List Value} {hd : Nat → Θ → List HA}
    (hseq : SeqX E P gf cap rds nv xs hd) (hg : ev s g = some (.func (.func gf) #[] cap.toArray)) (hen : Go.Proofs.Enters P gf)
    (p : Nat → T → Prop) (η : Nat → T → List HA) (q : Tx → Prop) (ηx : Tx → List HA) (jid : Nat) (t0 : T) (h0 : p 0 t0) (is : List Nat) (hi : Pick h is (η 0 t0)) (js : List Nat) (hj : js.map (fun j => (h[j]?).map HA.asrd) = rds.map some) (hjr : js.all (fun j => match h[j]? with | some x => x.asrd.bs.isNone && x.ids.isEmpty | none => false) = true)
    (hηn' : ∀ k t, (η k t).all HA.plainB = true) (hηx' : ∀ t, (ηx t).all HA.plainB = true) (hdr : ∀ k θ, (hd k θ).all rdB = true) (hps : ∀ k θ, (xs k θ).length = ps.length) (hpN : ps.all (fun p => Nat.blt p N) = true)
    (hrs : ∀ r, rs r) (hround : ∀ (C2 : List Nat) (w2 : World) (lo2 : Nat) (rs2 : Nat → Prop) (l D m k : Nat) (t : T) (θ : Θ) (rec : Loop), rec.state = .ready → k < nv → p k t →
      Tr ⟨N, C2, w2, lo2, rs2, []⟩ (slotsOf ps (xs k θ) ++ s) (hd k θ ++ (.obj l (.loop rec) :: .obj D (.deferred (some [])) :: η k t))
        (Wp (Fence.wide.inRound l) m P ⟨Begun l m P ⟨N, C2, w2, lo2, rs2, []⟩ rec ⟨RoundOn l D ⟨N, C2, w2, lo2, rs2, []⟩ rec (p (k + 1)) (η (k + 1)), fun _ _ => False, [(jid, RoundOn l D ⟨N, C2, w2, lo2, rs2, []⟩ rec q ηx)]⟩ body, fun _ _ => False, []⟩ assign))
    (hdone : ∀ (D : Nat) (t : T), p nv t → Tr ⟨N, C, w0, lo, rs, { target := .collected D, args := #[] } :: ds⟩ s (.obj D (.deferred (some [])) :: η nv t) nrm)
    (hstop : ∀ (D : Nat) (t : Tx), q t → Tr ⟨N, C, w0, lo, rs, { target := .collected D, args := #[] } :: ds⟩ s (.obj D (.deferred (some [])) :: ηx t) (Wp Fence.wide n P ⟨nrm, ret, ex⟩ (.exit jid)))
    (hE : E = true → ∀ t, ¬ p nv t := by intro h; cases h) :
    Tr ⟨N, C, w0, lo, rs, ds⟩ s h (Wp Fence.wide n P ⟨nrm, ret, ex⟩ (.rangeFunc g ps.toArray assign body)) := fun a w st => by
  refine wpIn_rangeFunc fun fn hfn => ?_
  rw [show Fence.wide.round = none from rfl]
  have hηn : ∀ k t, ∀ x ∈ η k t, x.bs = none := fun k t x hx => plain_bs (List.all_eq_true.1 (hηn' k t) x hx)
  have hηx : ∀ t, ∀ x ∈ ηx t, x.bs = none := fun t x hx => plain_bs (List.all_eq_true.1 (hηx' t) x hx)
  let R0 : LoopState → Option Code → Loop := fun st pe => { state := st, pending := pe, fn, tmps := a.tmps, params := ps.toArray, assign, body, defers := w.heap.size }
  let X1 : Cx := ⟨N, C, w0, lo, rs, []⟩
  let a1 : Act := { tmps := a.tmps, defers := [] }
  have stA : ∀ {h' : List HA} {w' : World}, St ⟨N, C, w0, lo, rs, ds⟩ s h' a w' → St X1 s h' a1 w' := fun st => ⟨st.sz, rfl, st.sl, st.kp, st.ok, st.ll, st.fr, st.nd, st.dj, st.iv, st.ib, st.rk⟩
  let lI := w.heap.size + 1
  let D := w.heap.size
  let W1 := (w.alloc (.deferred (some []))).alloc (.loop (R0 .ready none))
  let hp := fun (r : Loop) (l : List HA) => HA.obj lI (.loop r) :: .obj D (.deferred (some [])) :: l
  have st0 : St X1 s (hp (R0 .ready none) (η 0 t0)) a1 W1 := by
    have h1 := (stA (st.pick hi)).newobj (.deferred (some []))
    have h2 := h1.newobj (.loop (R0 .ready none))
    rw [show (w.alloc (Obj.deferred (some []))).heap.size = lI from World.size_alloc _ _] at h2
    exact h2
  let J : JJ := fun k O R W => ∃ t, p k t ∧ St X1 s (hp (R0 .ready none) (η k t)) a1 W ∧ O = (hp (R0 .ready none) (η k t)).flatMap HA.ids ∧ R = (hp (R0 .ready none) (η k t)).flatMap HA.rids
  let Jx : JX := fun O R W => ∃ t, q t ∧ St X1 s (hp (R0 .done (some (.exit jid))) (ηx t)) a1 W ∧ O = (hp (R0 .done (some (.exit jid))) (ηx t)).flatMap HA.ids ∧ R = (hp (R0 .done (some (.exit jid))) (ηx t)).flatMap HA.rids
  have hpn : ∀ r l, (∀ x ∈ l, x.bs = none) → ∀ x ∈ hp r l, x.bs = none := by
    intro r l hl x hx
    rcases List.mem_cons.1 hx with rfl | hx
    · rfl
    · rcases List.mem_cons.1 hx with rfl | hx
      · rfl
      · exact hl x hx
  have hW1s : w.heap.size ≤ W1.heap.size := by show w.heap.size ≤ ((w.alloc _).alloc _).heap.size; simp; omega
  have hw0 : w0.heap.size ≤ W1.heap.size := Nat.le_trans st.kp.same.size hW1s
  refine ⟨lI, [{ target := .collected D, args := #[] }], W1, { target := .fn (.func gf) cap.toArray, args := #[.func (.yield lI) #[] #[]] }, W1, gf, (.func (.yield lI) #[] #[] :: cap).toArray, W1, ?_, ?_, fun f' _ => trivial, ?_, fun hh => absurd hh (by simp [Fence.wide]), ?_⟩
  · exact run_enterLoop_outer _ _ _ _ _
  · have hev : a.eval (.const (.func (.yield lI) #[] #[])) = .func (.yield lI) #[] #[] := rfl
    simp only [resolve, rangeCall, st.ag g _ hg]
    simp [Deferred.ofValue, hev]
  · have := hen (#[.func (.yield lI) #[] #[]] ++ cap.toArray) W1
    have e : (#[Value.func (.yield lI) #[] #[]] ++ cap.toArray) = (Value.func (.yield lI) #[] #[] :: cap).toArray := by simp
    rw [e] at this
    simp only [invoke]
    rw [e]; exact this
  · have hlow : ∀ {r : Loop} {l : List HA} {W : World}, St X1 s (hp r l) a1 W → ∀ i ∈ (hp r l).flatMap HA.ids ++ (hp r l).flatMap HA.rids, i < W.heap.size := by
      intro r l W hst i hin
      rcases List.mem_append.1 hin with h1 | h1 <;> obtain ⟨x, hx, hxi⟩ := List.mem_flatMap.1 h1
      · exact HA.lt (hst.ok x hx) i (List.mem_append.2 (.inl hxi))
      · exact HA.lt (hst.ok x hx) i (List.mem_append.2 (.inr hxi))
    have hrW : HOK rds W1 := by
      intro x hx
      have : some x ∈ js.map (fun j => (h[j]?).map HA.asrd) := by rw [hj]; exact List.mem_map.2 ⟨x, hx, rfl⟩
      obtain ⟨j, hjm, hje⟩ := List.mem_map.1 this
      obtain ⟨y, hy, rfl⟩ := Option.map_eq_some_iff.1 hje
      have hyh := List.mem_of_getElem? hy
      have hb := List.all_eq_true.1 hjr j hjm
      simp only [hy, Bool.and_eq_true, Option.isNone_iff_eq_none] at hb
      have hyb : y.bs = none := by have := hb.1; cases y <;> first | rfl | (cases this; done)
      refine asrd_ok (HA.ok_keep (st.ok y hyh) ⟨rfl, rfl, rfl, hW1s⟩ (fun i hin => ?_) (fun B hB => by rw [hyb] at hB; cases hB))
      have hlt := HA.lt (st.ok y hyh) i hin
      show ((w.alloc _).alloc _).heap[i]? = _
      rw [Below.heap_alloc _ _ _ (by simp; omega), Below.heap_alloc _ _ _ hlt]
    have hrO : ∀ x ∈ rds, ∀ r ∈ x.rids, r ∉ (hp (R0 .ready none) (η 0 t0)).flatMap HA.ids := by
      intro x hx r hr hin
      have : some x ∈ js.map (fun j => (h[j]?).map HA.asrd) := by rw [hj]; exact List.mem_map.2 ⟨x, hx, rfl⟩
      obtain ⟨j, hjm, hje⟩ := List.mem_map.1 this
      obtain ⟨y, hy, rfl⟩ := Option.map_eq_some_iff.1 hje
      have hyh := List.mem_of_getElem? hy
      rw [asrd_rids] at hr
      have hlt := HA.lt (st.ok y hyh) r (List.mem_append.2 (.inr hr))
      obtain ⟨z, hz, hzr⟩ := List.mem_flatMap.1 hin
      rcases List.mem_cons.1 hz with rfl | hz
      · simp [HA.ids] at hzr; omega
      · rcases List.mem_cons.1 hz with rfl | hz
        · simp [HA.ids] at hzr; omega
        · have hzh : z ∈ h := by
            have : some z ∈ is.map (h[·]?) := by rw [hi.2]; exact List.mem_map.2 ⟨z, hz, rfl⟩
            obtain ⟨i, _, hi'⟩ := List.mem_map.1 this
            exact List.mem_of_getElem? hi'
          exact st.dj y hyh z hzh r hr hzr
    refine (hseq lI J Jx W1 _ _ (n - 1) hrW hrO ?_ ?_ (hlow st0) ?_ (fun hEt O R W ⟨t, ht, _⟩ => hE hEt t ht) ⟨t0, h0, st0, rfl, rfl⟩).mono ?_
    · rintro k O R W W' ⟨t, ht, hst, rfl, rfl⟩ hs hb hin
      exact ⟨t, ht, hst.stab hw0 (hpn _ _ (hηn k t)) hs hb hin, rfl, rfl⟩
    · rintro O R W W' ⟨t, ht, hst, rfl, rfl⟩ hs hb hin
      exact ⟨t, ht, hst.stab hw0 (hpn _ _ (hηx t)) hs hb hin, rfl, rfl⟩
    · rintro k θ O R Wy m hk ⟨t, ht, hst, rfl, rfl⟩ hdk hdO
      have hlw : Wy.heap[lI]? = some (.loop (R0 .ready none)) := hst.ok _ (List.mem_cons_self ..)
      have hy := run_yield (P := P) (args := (xs k θ).toArray) hlw (by show (xs k θ).toArray.size = ps.toArray.size; simp [hps k θ])
      refine ⟨fn, _, assign, body, hy, roundIn_of_wpIn hfn ?_⟩
      have hzip : ((R0 .ready none).params.zip (xs k θ).toArray).foldl (fun tmps (x : Nat × Value) => tmps.setIfInBounds x.1 x.2) (R0 .ready none).tmps = (ps.zip (xs k θ)).foldl (fun (t : Array Value) (q : Nat × Value) => t.setIfInBounds q.1 q.2) a.tmps := by
        show (ps.toArray.zip (xs k θ).toArray).foldl _ a.tmps = _
        rw [List.zip_toArray]
        simp
      let O := (hp (R0 .ready none) (η k t)).flatMap HA.ids
      let R := (hp (R0 .ready none) (η k t)).flatMap HA.rids
      let rs2 : Nat → Prop := fun r => r ∈ O ∨ r ∈ R ∨ r ∈ (hd k θ).flatMap HA.rids
      let X2 : Cx := ⟨N, O, Wy, Wy.heap.size, rs2, []⟩
      have hOC : ∀ i ∈ O, i ∈ C ∨ lo ≤ i := fun i hi => by
        obtain ⟨x, hx, hxi⟩ := List.mem_flatMap.1 hi
        exact hst.fr x hx i (HA.ids_frs hxi)
      have st2 : St X2 s (hp (R0 .ready none) (η k t)) a1 Wy :=
        ⟨hst.sz, rfl, hst.sl, Keep.refl _ _, hst.ok, ⟨Nat.le_refl _, Nat.le_refl _⟩, fun x hx c hc => ?_, hst.nd, hst.dj, hst.iv, fun x hx B hB => (by rw [hpn _ _ (hηn k t) x hx] at hB; cases hB), ⟨fun c hc => .inl hc, fun x hx r hr => .inl (.inr (.inl (List.mem_flatMap.2 ⟨x, hx, hr⟩)))⟩⟩
      case refine_1 =>
        refine .inl (List.mem_flatMap.2 ⟨x, hx, ?_⟩)
        rcases List.mem_cons.1 hx with rfl | hx
        · exact hc
        · rcases List.mem_cons.1 hx with rfl | hx
          · exact hc
          · rwa [plain_frs (List.all_eq_true.1 (hηn' k t) x hx)] at hc
      have stR : St X2 (slotsOf ps (xs k θ) ++ s) (hd k θ ++ hp (R0 .ready none) (η k t)) { tmps := (ps.zip (xs k θ)).foldl (fun (t : Array Value) (q : Nat × Value) => t.setIfInBounds q.1 q.2) a.tmps, defers := [] } Wy := by
        have h1 := st2.addrd (hd k θ) hdk (hdr k θ) (hpn _ _ (hηn k t)) hdO (fun x hx r hr => .inr (.inr (List.mem_flatMap.2 ⟨x, hx, hr⟩)))
        refine ⟨by rw [foldl_size]; exact hst.sz, rfl, slotsOf_spec ps (xs k θ) a.tmps s ?_ hst.sl, h1.kp, h1.ok, h1.ll, h1.fr, h1.nd, h1.dj, h1.iv, h1.ib, h1.rk⟩
        intro p' hp'
        have := List.all_eq_true.1 hpN p' hp'
        have h3 : p' < N := Nat.le_of_ble_eq_true this
        have h4 : a.tmps.size = N := hst.sz
        omega
      have hw := hround O Wy Wy.heap.size rs2 lI D m k t θ (R0 .ready none) rfl hk ht _ _ stR
      have hw2 : assign.wpIn (Fence.wide.inRound lI) m P (Exit.then (fun a₁ w₁ => ∃ w₂, (Instr.beginRound lI).run P w₁ = .ok () w₂ ∧ body.wpIn (Fence.wide.inRound lI) m P (roundPost P lI (YP J Jx k (hd k θ) O R Wy)) a₁ w₂) (fun _ _ _ => False)) { tmps := (ps.zip (xs k θ)).foldl (fun (t : Array Value) (q : Nat × Value) => t.setIfInBounds q.1 q.2) a.tmps, defers := [] } Wy := by
        refine wpIn_mono hw (fun e a2 w2 hq => ?_)
        cases e with
        | ret => exact hq.elim
        | exit i => obtain ⟨_, hj2, _⟩ := hq; cases hj2
        | goto _ => exact hq.elim
        | panic _ => exact hq.elim
        | outgrown => exact hq.elim
        | normal =>
          obtain ⟨w3, hb3, hbody⟩ := hq
          refine ⟨w3, hb3, wpIn_mono hbody (fun e a4 w4 hq4 => ?_)⟩
          have finish : ∀ (l' : List HA) (jump : Option Code) (r'' : Loop), St X2 [] (hp (R0 .busy none) l') a4 w4 → (r'' = { R0 .busy none with state := if jump.isNone then .ready else .done, pending := jump }) → (∀ x ∈ l', x.bs = none) →
              ∃ w', (Instr.endRound lI jump).run P w4 = .ok (.bool jump.isNone) w' ∧ St X1 s (hp r'' l') a1 w' ∧ (∀ i ∈ (hp r'' l').flatMap HA.ids, i ∈ O ∨ Wy.heap.size ≤ i) ∧ (∀ i ∈ (hp r'' l').flatMap HA.rids, i ∈ O ∨ i ∈ R ∨ i ∈ (hd k θ).flatMap HA.rids ∨ Wy.heap.size ≤ i) ∧ Keep O Wy w' := by
            intro l' jump r'' hst4 hr'' hl'
            have hl4 : w4.heap[lI]? = some (.loop (R0 .busy none)) := hst4.ok _ (List.mem_cons_self ..)
            refine ⟨_, run_endRound jump hl4, ?_⟩
            subst hr''
            have h5 := hst4.putobj (.loop { R0 .busy none with state := if jump.isNone then .ready else .done, pending := jump })
            have hid : ∀ x ∈ hp { R0 .busy none with state := if jump.isNone then .ready else .done, pending := jump } l', ∀ c ∈ x.frs, c ∈ O ∨ Wy.heap.size ≤ c := fun x hx c hc => h5.fr x hx c hc
            refine ⟨⟨hst.sz, rfl, hst.sl, hst.kp.trans h5.kp (fun i hi => (hOC i hi).imp id (fun h => Nat.le_trans st.ll.1 h)), h5.ok, ⟨st.ll.1, Nat.le_trans hst.ll.2 h5.kp.same.size⟩, fun x hx c hc => (hid x hx c hc).elim (fun h => hOC c h) (fun h => .inr (Nat.le_trans hst.ll.2 h)), h5.nd, h5.dj, fun x hx q hq => (by rw [os_of_bs (hpn _ _ hl' x hx)] at hq; cases hq), fun x hx B hB => (by rw [hpn _ _ hl' x hx] at hB; cases hB), ⟨hst.rk.1, fun x hx r hr => .inl (hrs r)⟩⟩, ?_, ?_, h5.kp⟩
            · intro i hi
              obtain ⟨x, hx, hxi⟩ := List.mem_flatMap.1 hi
              exact hid x hx i (HA.ids_frs hxi)
            · intro i hi
              obtain ⟨x, hx, hxi⟩ := List.mem_flatMap.1 hi
              rcases h5.rk.2 x hx i hxi with (h6 | h6 | h6) | h6
              · exact .inl h6
              · exact .inr (.inl h6)
              · exact .inr (.inr (.inl h6))
              · exact .inr (.inr (.inr h6))
          cases e with
          | normal =>
            obtain ⟨t', ht', hst4⟩ := hq4
            obtain ⟨w', hr, hst5, h6, h7, h8⟩ := finish _ none (R0 .ready none) hst4 rfl (hηn _ _)
            exact ⟨_, w', hr, _, _, h6, h7, h8, fun i hi => hlow hst5 i hi, .inl ⟨rfl, t', ht', hst5, rfl, rfl⟩⟩
          | exit i =>
            obtain ⟨J', hj', hq5⟩ := hq4
            have hij : i = jid := by
              by_cases hij : i = jid
              · exact hij
              · rw [List.lookup_cons] at hj'
                have : (i == jid) = false := by simpa using hij
                rw [this] at hj'; cases hj'
            subst hij
            rw [List.lookup_cons] at hj'
            simp only [beq_self_eq_true, Option.some.injEq] at hj'
            subst hj'
            obtain ⟨t', ht', hst4⟩ := hq5
            obtain ⟨w', hr, hst5, h6, h7, h8⟩ := finish _ (some (.exit i)) (R0 .done (some (.exit i))) hst4 rfl (hηx _)
            exact ⟨_, w', hr, _, _, h6, h7, h8, fun i hi => hlow hst5 i hi, .inr ⟨rfl, t', ht', hst5, rfl, rfl⟩⟩
          | ret => exact hq4.elim
          | goto _ => exact hq4.elim
          | panic _ => exact hq4.elim
          | outgrown => exact hq4.elim
      have e2 : (fun (tmps : Array Value) (x : Nat × Value) => match x with | (t, a) => tmps.setIfInBounds t a) = (fun (tmps : Array Value) (x : Nat × Value) => tmps.setIfInBounds x.1 x.2) := rfl
      rw [← hzip] at hw2
      exact hw2
    · rintro e W3 ⟨⟨v, rfl⟩, O', R', hJ⟩
      rcases hJ with ⟨t, ht, hst, -, -⟩ | ⟨t, ht, hst, -, -⟩
      · have hl3 : W3.heap[lI]? = some (.loop (R0 .ready none)) := hst.ok _ (List.mem_cons_self ..)
        have hr := run_endLoop (P := P) hl3 (by simp [R0])
        refine ⟨none, _, hr, ?_⟩
        have h5 := hst.putobj (.loop { R0 .ready none with state := .exhausted })
        have h6 : St X1 s (.obj D (.deferred (some [])) :: η nv t) a1 _ := St.drop (out := [_]) h5
        exact hdone D t ht _ _ ⟨h6.sz, by show _ ++ _ = _; rw [st.df]; rfl, h6.sl, h6.kp, h6.ok, h6.ll, h6.fr, h6.nd, h6.dj, h6.iv, h6.ib, h6.rk⟩
      · have hl3 : W3.heap[lI]? = some (.loop (R0 .done (some (.exit jid)))) := hst.ok _ (List.mem_cons_self ..)
        have hr := run_endLoop (P := P) hl3 (by simp [R0])
        refine ⟨some (.exit jid), _, hr, ?_⟩
        have h5 := hst.putobj (.loop { R0 .done (some (.exit jid)) with state := .exhausted })
        have h6 : St X1 s (.obj D (.deferred (some [])) :: ηx t) a1 _ := St.drop (out := [_]) h5
        exact hstop D t ht _ _ ⟨h6.sz, by show _ ++ _ = _; rw [st.df]; rfl, h6.sl, h6.kp, h6.ok, h6.ll, h6.fr, h6.nd, h6.dj, h6.iv, h6.ib, h6.rk⟩
end Go.Proofs.Ytlplpmkdebemnaa.Fw
