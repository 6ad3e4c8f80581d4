/- Walks by facts, part 2: what the functions that the law reaches answer. No conditions but lengths. -/
import Derived.Test.YtlplpmkdebemnaaGreatYBlockBack1
import Derived.RangeFuncNested
import Derived.RangeFuncBound
import Derived.RangeFuncCalls
import Derived.RangeFuncLeaves
import Derived.Laws.StructEq
import Derived.Stop.BytesEq
import Derived.Lib.SlBytesConst
import Derived.WalkSpells
import Derived.ChangeShapes
import Derived.ChangeSlices
import Derived.ChangeOld
import Derived.OpenShut
import Derived.LoopNIn
import Derived.Laws.Externs
import Derived.Test.YtlplpmkdebemnaaGreatProg
import Derived.Outline
import Derived.LoopTactic
import Derived.KernelRfl
set_option linter.unusedVariables false
set_option linter.unusedSimpArgs false
set_option linter.unnecessarySimpa false
namespace Go.Proofs.YtlplpmkdebemnaaGreat.Fw
open Go.RowKit Bv
abbrev JJ := Nat → List Nat → List Nat → World → Prop
abbrev JX := List Nat → List Nat → World → Prop
/-- What a round owes to the sequence. -/
def YP (J : JJ) (Jx : JX) (k : Nat) (hd : List HA) (O R : List Nat) (W1 : World) (e : Ending) (W' : World) : Prop :=
  ∃ O' R', (∀ i ∈ O', i ∈ O ∨ W1.heap.size ≤ i) ∧ (∀ i ∈ R', i ∈ O ∨ i ∈ R ∨ i ∈ hd.flatMap HA.rids ∨ W1.heap.size ≤ i) ∧ Keep O W1 W' ∧ (∀ i ∈ O' ++ R', i < W'.heap.size) ∧
    ((e = .returned (.bool true) ∧ J (k + 1) O' R' W') ∨ (e = .returned (.bool false) ∧ Jx O' R' W'))
def Yls {Θ : Type} (P : Program) (l : Nat) (J : JJ) (Jx : JX) (nv : Nat) (xs : Nat → Θ → List Value) (hd : Nat → Θ → List HA) : Prop :=
  ∀ k θ O R W1 m, k < nv → J k O R W1 → HOK (hd k θ) W1 → (∀ x ∈ hd k θ, ∀ r ∈ x.rids, r ∉ O) → YieldAt Fence.wide m P l (xs k θ).toArray W1 (YP J Jx k (hd k θ) O R W1)
/-- A sequence: it tells nv things, one behind the other, as long as it is told to go on (E: it has no end; who ranges over it stops ahead of the nv-th). -/
def SeqX (E : Bool) {Θ : Type} (P : Program) (gf : FuncId) (cap : List Value) (rds : List HA) (nv : Nat) (xs : Nat → Θ → List Value) (hd : Nat → Θ → List HA) : Prop :=
  ∀ (l : Nat) (J : JJ) (Jx : JX) (W : World) (O R : List Nat) (m : Nat), HOK rds W → (∀ x ∈ rds, ∀ r ∈ x.rids, r ∉ O) → (∀ k O R, Stab W.heap.size (O ++ R) (J k O R)) → (∀ O R, Stab W.heap.size (O ++ R) (Jx O R)) → (∀ i ∈ O ++ R, i < W.heap.size) →
    Yls P l J Jx nv xs hd → (E = true → ∀ O R W, ¬ J nv O R W) → J 0 O R W →
    CallsIn Fence.wide m P gf (.func (.yield l) #[] #[] :: cap).toArray W (fun e W' => (∃ v, e = .returned v) ∧ ∃ O' R', (J nv O' R' W' ∨ Jx O' R' W'))
abbrev SeqC {Θ : Type} (P : Program) (gf : FuncId) (cap : List Value) (rds : List HA) (nv : Nat) (xs : Nat → Θ → List Value) (hd : Nat → Θ → List HA) : Prop := SeqX false P gf cap rds nv xs hd
def OpI (F : Fence) (n : Nat) (P : Program) (o : Oper) (K K0 : Jd) : Jd := fun a w => o.wpIn F n P a w K (QK K0)
def LsI (F : Fence) (n : Nat) (P : Program) (ops : Array Oper) (K : Jd) (os : List Oper) : Jd := fun a w => wpListIn F n P ops (QK K) os a w
def noDef (o : Oper) : Bool := match o.op with | .defer _ => false | _ => true
section
variable {F : Fence} {n : Nat} {P : Program} {X : Cx} {s : List (Nat × Value)} {h : List HA} {nrm ret K K0 : Jd} {ex : List (Nat × Jd)} {o : Oper} {ops : Array Oper}
theorem T_regI {id : Nat} {os : List Oper} (hh : Tr X s h (LsI F n P os.toArray nrm os)) : Tr X s h (Wp F n P ⟨nrm, ret, ex⟩ (.region id os.toArray false)) := fun a w st =>
  wpIn_mono (wpIn_region_lit (hh a w st)) (fun e a w hq => by cases e <;> first | exact hq | exact hq.elim)
theorem LI_nil (hh : Tr X s h K) : Tr X s h (LsI F n P ops K []) := fun a w st => hh a w st
theorem LI_op {os : List Oper} (hw : wantS ops s o = some true) (hh : Tr X s h (OpI F n P o (LsI F n P ops K os) K)) : Tr X s h (LsI F n P ops K (o :: os)) := fun a w st => by
  unfold LsI wpListIn
  rw [if_pos (wantS_spec st hw)]
  exact hh a w st
theorem opI {F : Fence} (hF : Wid F) (hd : noDef o = true) (hh : Tr X s h (Op P o K K0)) : Tr X s h (OpI F n P o K K0) := fun a w st => by
  rcases hF with rfl | ⟨l, rfl⟩
  · exact op_wide (hh a w st)
  · refine op_in (l := l) (fun c hc => ?_) (hh a w st)
    unfold noDef at hd; rw [hc] at hd; cases hd
theorem LI_opP {os : List Oper} (hF : Wid F) (hw : wantS ops s o = some true) (hd : noDef o = true) (hh : Tr X s h (Op P o (LsI F n P ops K os) K)) : Tr X s h (LsI F n P ops K (o :: os)) := LI_op hw (opI hF hd hh)
theorem LI_skip {os : List Oper} {d : Nat} (hF : Wid F) (hw : wantS ops s o = some false) (hd : o.dst = some d) (hN : Nat.blt d X.N = true) (hh : Tr X ((d, undef) :: s) h (LsI F n P ops K os)) : Tr X s h (LsI F n P ops K (o :: os)) := fun a w st => by
  unfold LsI wpListIn
  rw [if_neg (by rw [wantS_spec st hw]; exact Bool.false_ne_true), hd]
  refine ⟨fun f _ => ?_, hh _ w (st.put (Nat.le_of_ble_eq_true hN) undef)⟩
  rcases hF with rfl | ⟨l, rfl⟩ <;> trivial
/-- The sequence tells something. -/
theorem op_yield {Θ : Type} {l B nv k : Nat} {J : JJ} {Jx : JX} {O R : List Nat} {xs : Nat → Θ → List Value} {hd : Nat → Θ → List HA} (θ : Θ) (hy : Yls P l J Jx nv xs hd) (hk : k < nv) (hsJ : ∀ k O R, Stab B (O ++ R) (J k O R)) (hsX : ∀ O R, Stab B (O ++ R) (Jx O R)) (i : Nat) (hi : h[i]? = some (.inv B O R (J k O R))) (is : List Nat) (hp : PickM h is (hd k θ)) (hone : (h.eraseIdx i).all (fun x => x.bs.isNone) = true) (hdn : (hd k θ).all (fun x => x.bs.isNone) = true)
    {c : Operand} {ys : List Operand} {ts : Array TypeId} {d : Nat} (ho : o.op = .call { callee := .value c, args := ys.toArray, argTypes := ts }) (hc : ev s c = some (.func (.yield l) #[] #[])) (hys : ys.map (ev s) = (xs k θ).map some) (hds : o.dst = some d) (hN : Nat.blt d X.N = true) (hXw : X.w0.heap.size = 0) (hrs : ∀ r, X.rs r)
    (ht : ∀ O' R', Tr X ((d, .bool true) :: s) (.inv B O' R' (J (k + 1) O' R') :: h.eraseIdx i) K) (hf : ∀ O' R', Tr X ((d, .bool false) :: s) (.inv B O' R' (Jx O' R') :: h.eraseIdx i) K) : Tr X s h (OpI Fence.wide n P o K K0) := fun a w st => by
  have hinv : (HA.inv B O R (J k O R)).ok w := st.ok _ (List.mem_of_getElem? hi)
  have hmi := List.mem_of_getElem? hi
  have hdm : ∀ x ∈ hd k θ, x ∈ h := by
    intro x hx
    have : some x ∈ is.map (h[·]?) := by rw [hp]; exact List.mem_map.2 ⟨x, hx, rfl⟩
    obtain ⟨j, _, hj⟩ := List.mem_map.1 this
    exact List.mem_of_getElem? hj
  have hdb : ∀ x ∈ hd k θ, x.bs = none := fun x hx => by have := List.all_eq_true.1 hdn x hx; simpa using this
  obtain ⟨fn, tmps, assign, body, he, hr⟩ := hy k θ O R w (n - 1) hk hinv.1 (hp.hok st.ok) (fun x hx r hr hrO => st.iv _ hmi r hrO x (hdm x hx) (hdb x hx) hr)
  have key : ∀ (l : List Operand) (r : List Value), l.map (ev s) = r.map some → l.map a.eval = r := by
    intro l
    induction l with
    | nil => intro r hr; cases r with | nil => rfl | cons _ _ => simp at hr
    | cons b l ih => intro r hr; cases r with
      | nil => simp at hr
      | cons c r => simp only [List.map_cons, List.cons.injEq] at hr ⊢; exact ⟨st.ag _ _ hr.1, ih r hr.2⟩
  have hrun : (execOp a.eval o).run P w = .ok (.round l fn tmps assign body) w := by
    unfold execOp; rw [ho]
    simp [resolve, st.ag _ _ hc, Deferred.ofValue, invoke, key ys _ hys, he]
  refine ⟨fun f _ => trivial, ?_⟩
  rw [show Oper.semAt Fence.wide.round a.eval o = execOp a.eval o from rfl, hrun, Oper.uponIn_round]
  refine ⟨fun h => absurd h (by simp [Fence.wide]), hr.mono fun e W' hYP => ?_⟩
  obtain ⟨O', R', hO', hR', hkO, hlt, hend⟩ := hYP
  have hidO : ∀ y ∈ h, ∀ c ∈ y.ids, c ∉ O ++ R := fun y hy c hc hin => st.dj _ hmi y hy c hin hc
  have hperm := perm_erase h i _ hi
  have hsub : ∀ x, x ∈ h.eraseIdx i → x ∈ h := fun x hx => hperm.mem_iff.2 (List.mem_cons_of_mem _ hx)
  have hbn : ∀ x ∈ h.eraseIdx i, x.bs = none := fun x hx => by have := List.all_eq_true.1 hone x hx; simpa using this
  have hosn : ∀ x : HA, x.bs = none → x.os = [] := fun x hx => by cases x <;> first | rfl | (cases hx; done)
  obtain ⟨hC, hB⟩ := st.ib _ hmi B rfl
  have fin : ∀ (v : Value) (p : World → Prop), p W' → Stab B (O' ++ R') p → St X ((d, v) :: s) (.inv B O' R' p :: h.eraseIdx i) (a.put (some d) v) W' := by
    intro v p hpW hst
    have sp := st.put (Nat.le_of_ble_eq_true hN) v
    refine ⟨sp.sz, sp.df, sp.sl, ⟨st.kp.same.trans hkO.same, fun q hq => by omega⟩, ?_, ⟨st.ll.1, Nat.le_trans st.ll.2 hkO.same.size⟩, ?_, ?_, ?_, ?_, ?_, ⟨st.rk.1, fun x _ r _ => .inl (hrs r)⟩⟩
    · intro x hx
      rcases List.mem_cons.1 hx with rfl | hx
      · exact ⟨hpW, hst, hlt⟩
      · refine HA.ok_keep (st.ok x (hsub x hx)) hkO.same (fun c hc => hkO.block c (HA.lt (st.ok x (hsub x hx)) c hc) (fun hcO => ?_)) (fun B' hB' => by rw [hbn x hx] at hB'; cases hB')
        rcases List.mem_append.1 hc with hc | hc
        · exact hidO x (hsub x hx) c hc (List.mem_append.2 (.inl hcO))
        · exact st.iv _ hmi c hcO x (hsub x hx) (hbn x hx) hc
    · intro x hx c hc
      rcases List.mem_cons.1 hx with rfl | hx
      · cases hc
      · exact st.fr x (hsub x hx) c hc
    · have := (hperm.flatMap_right HA.ids).nodup_iff.1 st.nd
      simpa [HA.ids] using this
    · intro x hx y hy r hr hry
      have hyy : y ∈ h := by
        rcases List.mem_cons.1 hy with rfl | hy
        · cases hry
        · exact hsub y hy
      have hrlt := HA.lt (st.ok y hyy) r (List.mem_append.2 (.inl hry))
      rcases List.mem_cons.1 hx with rfl | hx
      · rcases List.mem_append.1 hr with hr | hr
        · rcases hO' r hr with h1 | h1
          · exact hidO y hyy r hry (List.mem_append.2 (.inl h1))
          · omega
        · rcases hR' r hr with h1 | h1 | h1 | h1
          · exact hidO y hyy r hry (List.mem_append.2 (.inl h1))
          · exact hidO y hyy r hry (List.mem_append.2 (.inr h1))
          · obtain ⟨z, hz, hzr⟩ := List.mem_flatMap.1 h1
            exact st.dj z (hdm z hz) y hyy r hzr hry
          · omega
      · exact st.dj x (hsub x hx) y hyy r hr hry
    · intro x hx q hq y hy hyb hqr
      rcases List.mem_cons.1 hx with rfl | hx
      · rcases List.mem_cons.1 hy with rfl | hy
        · cases hyb
        · rcases hO' q hq with h1 | h1
          · exact st.iv _ hmi q h1 y (hsub y hy) hyb hqr
          · have := HA.lt (st.ok y (hsub y hy)) q (List.mem_append.2 (.inr hqr)); omega
      · rw [hosn x (hbn x hx)] at hq; cases hq
    · intro x hx B' hB'
      rcases List.mem_cons.1 hx with rfl | hx
      · cases hB'; exact ⟨hC, hB⟩
      · rw [hbn x hx] at hB'; cases hB'
  rw [hds]
  rcases hend with ⟨rfl, hJ⟩ | ⟨rfl, hJ⟩
  · exact ht O' R' _ _ (fin _ _ hJ (hsJ _ _ _))
  · exact hf O' R' _ _ (fin _ _ hJ (hsX _ _))
end
/-- Where a sequence's function begins. -/
theorem enter_seq {E : Bool} {P : Program} {gf : FuncId} {fn : Func} {c : Code} {Θ : Type} {nv : Nat} {xs : Nat → Θ → List Value} {hd : Nat → Θ → List HA} {cap : List Value} {rds : List HA} (hf : P.funcs[gf]? = some fn) (hb : fn.body = some c) (hN : Nat.ble (cap.length + 1) fn.ntmps = true) (hrd : rds.all rdB = true)
    (hh : ∀ (l : Nat) (J : JJ) (Jx : JX) (W : World) (O R : List Nat), (∀ k O R, Stab W.heap.size (O ++ R) (J k O R)) → (∀ O R, Stab W.heap.size (O ++ R) (Jx O R)) → Yls P l J Jx nv xs hd → (E = true → ∀ O R W, ¬ J nv O R W) →
      Tr ⟨fn.ntmps, [], { W with heap := #[] }, W.heap.size, fun _ => True, []⟩ (enumS 0 (.func (.yield l) #[] #[] :: cap)) (.inv W.heap.size O R (J 0 O R) :: rds)
        (Wp Fence.wide 9 P ⟨RetJ P fn (fun e W' => (∃ v, e = .returned v) ∧ ∃ O' R', (J nv O' R' W' ∨ Jx O' R' W')), RetJ P fn (fun e W' => (∃ v, e = .returned v) ∧ ∃ O' R', (J nv O' R' W' ∨ Jx O' R' W')), []⟩ c)) : SeqX E P gf cap rds nv xs hd := by
  intro l J Jx W O R m hrW hrO hsJ hsX hlt hy hend h0
  have hrb : ∀ x ∈ rds, x.ids = [] ∧ x.frs = [] ∧ x.os = [] ∧ x.bs = none := fun x hx => by
    have := List.all_eq_true.1 hrd x hx
    cases x <;> first | exact ⟨rfl, rfl, rfl, rfl⟩ | (cases this; done)
  have st : St ⟨fn.ntmps, [], { W with heap := #[] }, W.heap.size, fun _ => True, []⟩ (enumS 0 (.func (.yield l) #[] #[] :: cap)) (.inv W.heap.size O R (J 0 O R) :: rds) { tmps := (.func (.yield l) #[] #[] :: cap).toArray ++ Array.replicate (fn.ntmps - (.func (.yield l) #[] #[] :: cap).toArray.size) undef, defers := [] } W := by
    have hNN := Nat.le_of_ble_eq_true hN
    refine ⟨by simp; omega, rfl, ?_, ⟨⟨rfl, rfl, rfl, by simp⟩, fun k hk => by simp at hk⟩, ?_, ⟨by simp, Nat.le_refl _⟩, ?_, ?_, ?_, ?_, ?_, ⟨fun _ _ => trivial, fun _ _ _ _ => .inl trivial⟩⟩
    · intro k v hk
      have h1 := (enumS_spec _ 0 k v hk).2
      rw [Nat.sub_zero] at h1
      have h2 := (List.getElem?_eq_some_iff.1 h1).1
      rw [Array.getElem?_append_left (by simpa using h2)]
      simpa using h1
    · intro x hx
      rcases List.mem_cons.1 hx with rfl | hx
      · exact ⟨h0, hsJ _ _ _, hlt⟩
      · exact hrW x hx
    · intro x hx k hk
      rcases List.mem_cons.1 hx with rfl | hx
      · cases hk
      · rw [(hrb x hx).2.1] at hk; cases hk
    · have : rds.flatMap HA.ids = [] := List.flatMap_eq_nil_iff.2 fun x hx => (hrb x hx).1
      simp [HA.ids, this]
    · intro x hx y hy r hr hry
      rcases List.mem_cons.1 hy with rfl | hy
      · cases hry
      · rw [(hrb y hy).1] at hry; cases hry
    · intro x hx q hq y hy hyb hqr
      rcases List.mem_cons.1 hx with rfl | hx
      · rcases List.mem_cons.1 hy with rfl | hy
        · cases hyb
        · exact hrO y hy q hqr hq
      · rw [(hrb x hx).2.2.1] at hq; cases hq
    · intro x hx B hB
      rcases List.mem_cons.1 hx with rfl | hx
      · cases hB; exact ⟨rfl, Nat.le_refl _⟩
      · rw [(hrb x hx).2.2.2] at hB; cases hB
  have h9 : CallsIn Fence.wide 9 P gf (.func (.yield l) #[] #[] :: cap).toArray W (fun e W' => (∃ v, e = .returned v) ∧ ∃ O' R', (J nv O' R' W' ∨ Jx O' R' W')) := by
    refine callsIn_of_wp hf hb trivial (wpIn_mono (hh l J Jx W O R hsJ hsX hy hend _ _ st) (fun e a w hq => ?_)) rfl
    cases e with
    | normal => exact hq
    | ret => exact hq
    | exit i => obtain ⟨_, hj, _⟩ := hq; cases hj
    | goto _ => exact hq.elim
    | panic _ => exact hq.elim
    | outgrown => exact hq.elim
  exact callsIn_wide.2 (callsIn_wide.1 h9)
section
variable {P : Program} {fn : Func} {X : Cx} {s : List (Nat × Value)} {h : List HA}
theorem T_finJ {nv B : Nat} {J : JJ} {Jx : JX} {O R : List Nat} (hX : X.ds = []) (hr : fn.results = #[]) (i : Nat) (hi : h[i]? = some (.inv B O R (J nv O R))) : Tr X s h (RetJ P fn (fun e W' => (∃ v, e = .returned v) ∧ ∃ O' R', (J nv O' R' W' ∨ Jx O' R' W'))) := fun a w st =>
  ⟨st.df.trans hX, .tuple #[], by simp [results, hr, go_sem], ⟨_, rfl⟩, O, R, .inl (st.ok _ (List.mem_of_getElem? hi) : (HA.inv B O R (J nv O R)).ok w).1⟩
theorem T_finX {nv B : Nat} {J : JJ} {Jx : JX} {O R : List Nat} (hX : X.ds = []) (hr : fn.results = #[]) (i : Nat) (hi : h[i]? = some (.inv B O R (Jx O R))) : Tr X s h (RetJ P fn (fun e W' => (∃ v, e = .returned v) ∧ ∃ O' R', (J nv O' R' W' ∨ Jx O' R' W'))) := fun a w st =>
  ⟨st.df.trans hX, .tuple #[], by simp [results, hr, go_sem], ⟨_, rfl⟩, O, R, .inr (st.ok _ (List.mem_of_getElem? hi) : (HA.inv B O R (Jx O R)).ok w).1⟩
end
/-! The loop's side. -/
theorem os_of_bs {x : HA} (h : x.bs = none) : x.os = [] := by cases x <;> first | rfl | (cases h; done)
theorem St.stab {X : Cx} {s : List (Nat × Value)} {h : List HA} {a : Act} {w w' : World} (st : St X s h a w) {B : Nat} (hB : X.w0.heap.size ≤ B) (hn : ∀ x ∈ h, x.bs = none) (hs : Same w w') (hb : ∀ i, i < B → w'.heap[i]? = w.heap[i]?) (hi : ∀ i ∈ h.flatMap HA.ids ++ h.flatMap HA.rids, w'.heap[i]? = w.heap[i]?) : St X s h a w' :=
  ⟨st.sz, st.df, st.sl, ⟨st.kp.same.trans hs, fun k hk hn => (hb k (by omega)).trans (st.kp.block k hk hn)⟩,
    fun x hx => HA.ok_keep (st.ok x hx) hs (fun i hin => hi i (by
      rcases List.mem_append.1 hin with h1 | h1
      · exact List.mem_append.2 (.inl (List.mem_flatMap.2 ⟨x, hx, h1⟩))
      · exact List.mem_append.2 (.inr (List.mem_flatMap.2 ⟨x, hx, h1⟩)))) (fun B hB => by rw [hn x hx] at hB; cases hB),
    ⟨st.ll.1, Nat.le_trans st.ll.2 hs.size⟩, st.fr, st.nd, st.dj, st.iv, st.ib, st.rk⟩
theorem St.putobj {X : Cx} {s : List (Nat × Value)} {h : List HA} {a : Act} {w : World} {g : Nat} {ob : Obj} (st : St X s (.obj g ob :: h) a w) (ob' : Obj) : St X s (.obj g ob' :: h) a (w.putObj g ob') := by
  have hg : w.heap[g]? = some ob := st.ok _ (List.mem_cons_self ..)
  have hlt := (Array.getElem?_eq_some_iff.1 hg).1
  refine st.swap [.obj g ob] h [.obj g ob'] (List.Perm.refl _) st.sz st.df st.sl ⟨⟨rfl, rfl, rfl, by simp⟩, fun k _ hk => World.putObj_heap_other (fun e => hk (by simp [HA.ids, e]))⟩ ?_ ?_ ?_ ?_
  · intro x hx; rw [List.mem_singleton] at hx; subst hx; exact World.putObj_heap_same hlt
  · intro x hx k hk; rw [List.mem_singleton] at hx; subst hx; exact .inl (by simpa [HA.ids, HA.frs] using hk)
  · simp [HA.ids]
  · intro x hx r hr; rw [List.mem_singleton] at hx; subst hx; cases hr
theorem St.newobj {X : Cx} {s : List (Nat × Value)} {h : List HA} {a : Act} {w : World} (st : St X s h a w) (ob : Obj) : St X s (.obj w.heap.size ob :: h) a (w.alloc ob) := by
  refine st.swap [] h [.obj w.heap.size ob] (List.Perm.refl _) st.sz st.df st.sl (keep_alloc w _) ?_ ?_ ?_ ?_
  · intro x hx; rw [List.mem_singleton] at hx; subst hx; exact World.alloc_heap_new w _
  · intro x hx k hk; rw [List.mem_singleton] at hx; subst hx; simp [HA.frs] at hk; subst hk; exact .inr (Nat.le_refl _)
  · simp [HA.ids]
  · intro x hx r hr; rw [List.mem_singleton] at hx; subst hx; cases hr
/-- Rows that are read, told beside. -/
theorem St.addrd {X : Cx} {s : List (Nat × Value)} {h : List HA} {a : Act} {w : World} (st : St X s h a w) (hd : List HA) (hk : HOK hd w) (hb : hd.all rdB = true) (hn : ∀ x ∈ h, x.bs = none) (hr : ∀ x ∈ hd, ∀ r ∈ x.rids, r ∉ h.flatMap HA.ids) (hrs : ∀ x ∈ hd, ∀ r ∈ x.rids, X.rs r) : St X s (hd ++ h) a w := by
  have hrb : ∀ x ∈ hd, x.ids = [] ∧ x.frs = [] ∧ x.os = [] ∧ x.bs = none := fun x hx => by
    have := List.all_eq_true.1 hb x hx
    cases x <;> first | exact ⟨rfl, rfl, rfl, rfl⟩ | (cases this; done)
  refine ⟨st.sz, st.df, st.sl, st.kp, ?_, st.ll, ?_, ?_, ?_, ?_, ?_, ⟨st.rk.1, fun x hx r hrr => (List.mem_append.1 hx).elim (fun hx => .inl (hrs x hx r hrr)) (fun hx => st.rk.2 x hx r hrr)⟩⟩
  · intro x hx
    rcases List.mem_append.1 hx with hx | hx
    · exact hk x hx
    · exact st.ok x hx
  · intro x hx k hkf
    rcases List.mem_append.1 hx with hx | hx
    · rw [(hrb x hx).2.1] at hkf; cases hkf
    · exact st.fr x hx k hkf
  · rw [List.flatMap_append, List.flatMap_eq_nil_iff.2 fun x hx => (hrb x hx).1]
    simpa using st.nd
  · intro x hx y hy r hrr hry
    rcases List.mem_append.1 hy with hy | hy
    · rw [(hrb y hy).1] at hry; cases hry
    · rcases List.mem_append.1 hx with hx | hx
      · exact hr x hx r hrr (List.mem_flatMap.2 ⟨y, hy, hry⟩)
      · exact st.dj x hx y hy r hrr hry
  · intro x hx q hq
    rcases List.mem_append.1 hx with hx | hx
    · rw [(hrb x hx).2.2.1] at hq; cases hq
    · rw [os_of_bs (hn x hx)] at hq; cases hq
  · intro x hx B hB
    rcases List.mem_append.1 hx with hx | hx
    · rw [(hrb x hx).2.2.2] at hB; cases hB
    · exact st.ib x hx B hB
theorem rdv_part3 {w : World} {A : Option Addr} {z n c l u : Nat} {cs : List Value} (hr : RdV w A z n c cs) (h1 : l ≤ u) (h2 : u ≤ n) : RdV w (if u = l then A else A.map (·.add (l * z))) z (u - l) (u - l) ((cs.drop (l * z)).take ((u - l) * z)) := by
  have hl := hr.len; have hle := hr.le; have hm := hr.most
  have e1 : l * z + (u - l) * z = u * z := by rw [← Nat.add_mul]; congr 1; omega
  have e2 : u * z ≤ n * z := Nat.mul_le_mul_right z h2
  refine ⟨?_, Nat.le_refl _, by omega, ?_, ?_⟩
  · simp only [List.length_take, List.length_drop, hl]; omega
  · intro e
    by_cases hc : u = l
    · omega
    · rw [if_neg hc] at e
      have : A = none := by simpa using e
      have := hr.isn this; omega
  · intro ad e j v hj
    rw [List.getElem?_take] at hj
    split at hj
    case isFalse => cases hj
    case isTrue hjl =>
      rw [List.getElem?_drop] at hj
      by_cases hc : u = l
      · have : u - l = 0 := by omega
        rw [this] at hjl; simp at hjl
      · rw [if_neg hc] at e
        obtain ⟨ad', h3, h4⟩ := Option.map_eq_some_iff.1 e
        have := hr.cells ad' h3 (l * z + j) v hj
        rw [← h4, Addr.add_add]
        exact this
/-- s[l:u:u] of a slice that is read. -/
theorem op_slice3_rd {X : Cx} {s : List (Nat × Value)} {h : List HA} {P : Program} {o : Oper} {K K0 : Jd} {d : Nat} {t e : TypeId} {x lo hi mx : Operand} {A : Option Addr} {z n c l u : Nat} {cs : List Value} {k1 k2 k3 : IntKind} (i : Nat) (hi' : h[i]? = some (.rd A z n c cs)) (hlu : l ≤ u) (hun : u ≤ n) (ht : P.underlying t = some (.slice e)) (hz : (P.info? e).map (·.size) = some z)
    (ho : o.op = .slice t x (some lo) (some hi) (some mx)) (hx : ev s x = some (.slice A n c)) (hl : ev s lo = some (.int k1 (l : Int))) (hu : ev s hi = some (.int k2 (u : Int))) (hm : ev s mx = some (.int k3 (u : Int))) (hd : o.dst = some d) (hN : Nat.blt d X.N = true)
    (hh : ∀ A', Tr X ((d, .slice A' (u - l) (u - l)) :: s) (.rd A' z (u - l) (u - l) ((cs.drop (l * z)).take ((u - l) * z)) :: h) K) : Tr X s h (Op P o K K0) := fun a w st => by
  have hrd := (src_rd i hi' w st.ok).1
  have hr : (execOp a.eval o).run P w = .ok (.value (.slice (if u = l then A else A.map (·.add (l * z))) (u - l) (u - l))) w := by
    have hle := hrd.le
    have g1 : (0 : Int) ≤ (u : Int) ∧ (u : Int) ≤ c := by omega
    have g2 : (0 : Int) ≤ (l : Int) ∧ (l : Int) ≤ u := by omega
    have g3 : ¬ u < l := by omega
    have g4 : u ≤ c := by omega
    have g5 : ¬ c < u := by omega
    unfold execOp; rw [ho]
    simp [st.ag _ _ hx, st.ag _ _ hl, st.ag _ _ hu, st.ag _ _ hm, Instr.sliceAt, run_underlying ht, Instr.slice, Instr.sliceBounds, Instr.sliceBound, asIntOf, g1, g2, g3, g4, g5, hlu, run_sizeOf hz]
  refine op_val hr ?_
  rw [hd]
  have st' := st.put (Nat.le_of_ble_eq_true hN) (.slice (if u = l then A else A.map (·.add (l * z))) (u - l) (u - l))
  refine T_part i hi' (fun w hw => rdv_part3 (src_rd i hi' w hw).1 hlu hun) ?_ (by have := (src_rd i hi' _ st.ok).1.le; omega) (hh _) _ _ st'
  intro ad e
  by_cases hc : u = l
  · rw [if_pos hc] at e; exact ⟨ad, e, rfl⟩
  · rw [if_neg hc] at e
    obtain ⟨ad', h3, h4⟩ := Option.map_eq_some_iff.1 e
    exact ⟨ad', h3, by rw [← h4, add_block]⟩
/-- What a sequence is asked to read. -/
def HA.asrd : HA → HA
  | .old A z n c cs => .rd A z n c cs
  | x => x
theorem asrd_ok {x : HA} {w : World} (h : x.ok w) : x.asrd.ok w := by cases x <;> exact h
theorem asrd_rids (x : HA) : x.asrd.rids = x.rids := by cases x <;> rfl
/-- A round has begun: the assignments to the loop's variables are over. -/
def Begun (l m : Nat) (P : Program) (X : Cx) (rec : Loop) (k : Ks) (body : Code) : Jd := fun a w =>
  ∃ w₂, (Instr.beginRound l).run P w = .ok () w₂ ∧ Wp (Fence.wide.inRound l) m P k body a w₂
theorem T_begun {l m : Nat} {P : Program} {X : Cx} {rec : Loop} {k : Ks} {body : Code} {s : List (Nat × Value)} {h : List HA} (i : Nat) (hi : h[i]? = some (.obj l (.loop rec))) (hrec : rec.state = .ready) (hh : Tr X s (.obj l (.loop { rec with state := .busy }) :: h.eraseIdx i) (Wp (Fence.wide.inRound l) m P k body)) : Tr X s h (Begun l m P X rec k body) := fun a w st => by
  have st1 := st.perm (perm_erase h i _ hi)
  have hl : w.heap[l]? = some (.loop rec) := st1.ok _ (List.mem_cons_self ..)
  exact ⟨_, run_beginRound hl hrec, hh a _ (st1.putobj _)⟩
/-- How a round ends: on, or by a jump. -/
def RoundOn {T : Type} (l D : Nat) (X : Cx) (rec : Loop) (q : T → Prop) (η : T → List HA) : Jd := fun a w => ∃ t, q t ∧ St X [] (.obj l (.loop { rec with state := .busy }) :: .obj D (.deferred (some [])) :: η t) a w
theorem T_on {T : Type} {l D : Nat} {X : Cx} {rec : Loop} {q : T → Prop} {η : T → List HA} {s : List (Nat × Value)} {h : List HA} (t : T) (hq : q t) (is : List Nat) (hp : Pick h is (.obj l (.loop { rec with state := .busy }) :: .obj D (.deferred (some [])) :: η t)) : Tr X s h (RoundOn l D X rec q η) := fun a w st =>
  ⟨t, hq, (st.slots (s' := []) (fun k v e => by cases e)).pick hp⟩
def slotsOf : List Nat → List Value → List (Nat × Value)
  | p :: ps, v :: vs => slotsOf ps vs ++ [(p, v)]
  | _, _ => []
theorem slotsOf_spec : ∀ (ps : List Nat) (vs : List Value) (t : Array Value) (s : List (Nat × Value)), (∀ p ∈ ps, p < t.size) → (∀ k v, s.lookup k = some v → t[k]? = some v) → ∀ k v, (slotsOf ps vs ++ s).lookup k = some v → ((ps.zip vs).foldl (fun (t : Array Value) (q : Nat × Value) => t.setIfInBounds q.1 q.2) t)[k]? = some v
  | [], vs, t, s, _, hs, k, v, e => by cases vs <;> exact hs k v e
  | p :: ps, [], t, s, _, hs, k, v, e => hs k v e
  | p :: ps, u :: us, t, s, hp, hs, k, v, e => by
    rw [List.zip_cons_cons, List.foldl_cons]
    refine slotsOf_spec ps us (t.setIfInBounds p u) ((p, u) :: s) (fun q hq => by simpa using hp q (List.mem_cons_of_mem _ hq)) ?_ k v ?_
    · intro k v e
      rw [List.lookup_cons] at e
      rw [Array.getElem?_setIfInBounds]
      by_cases hk : k = p
      · subst hk; simp at e; subst e; simp [hp k (List.mem_cons_self ..)]
      · have h2 : (k == p) = false := by simpa using hk
        rw [h2] at e
        rw [if_neg (fun e => hk e.symm)]; exact hs k v e
    · have e' : ((slotsOf ps us ++ [(p, u)]) ++ s).lookup k = some v := e
      rwa [List.append_assoc] at e'
theorem foldl_size : ∀ (l : List (Nat × Value)) (t : Array Value), (l.foldl (fun (t : Array Value) (q : Nat × Value) => t.setIfInBounds q.1 q.2) t).size = t.size
  | [], t => rfl
  | q :: l, t => by rw [List.foldl_cons, foldl_size l]; simp
def HA.plainB : HA → Bool
  | .blk _ _ _ => true
  | .row _ _ _ _ _ => true
  | .rd _ _ _ _ _ => true
  | .all _ => true
  | .obj _ _ => true
  | _ => false
theorem plain_bs {x : HA} (h : x.plainB = true) : x.bs = none := by cases x <;> first | rfl | (cases h; done)
theorem plain_frs {x : HA} (h : x.plainB = true) : x.frs = x.ids := by cases x <;> first | rfl | (cases h; done)
/-- A row given up is a row that is read. -/
theorem T_tord {X : Cx} {s : List (Nat × Value)} {h : List HA} {J : Jd} (i : Nat) {A : Option Addr} {z n c : Nat} {cs : List Value} (hi : h[i]? = some (.old A z n c cs)) (hh : Tr X s (.rd A z n c cs :: h.eraseIdx i) J) : Tr X s h J := fun a w st => by
  have st1 := st.perm (perm_erase h i _ hi)
  refine hh a w ⟨st1.sz, st1.df, st1.sl, st1.kp, ?_, st1.ll, ?_, by simpa [HA.ids] using st1.nd, ?_, ?_, ?_, ⟨st1.rk.1, ?_⟩⟩
  · intro x hx
    rcases List.mem_cons.1 hx with rfl | hx
    · exact (st1.ok _ (List.mem_cons_self ..) : (HA.old A z n c cs).ok w)
    · exact st1.ok x (List.mem_cons_of_mem _ hx)
  · intro x hx k hk
    rcases List.mem_cons.1 hx with rfl | hx
    · cases hk
    · exact st1.fr x (List.mem_cons_of_mem _ hx) k hk
  · intro x hx y hy r hr hry
    rcases List.mem_cons.1 hy with rfl | hy
    · cases hry
    · rcases List.mem_cons.1 hx with rfl | hx
      · exact st1.dj (.old A z n c cs) (List.mem_cons_self ..) y (List.mem_cons_of_mem _ hy) r hr hry
      · exact st1.dj x (List.mem_cons_of_mem _ hx) y (List.mem_cons_of_mem _ hy) r hr hry
  · intro x hx q hq y hy hyb hqr
    rcases List.mem_cons.1 hx with rfl | hx
    · cases hq
    · rcases List.mem_cons.1 hy with rfl | hy
      · exact st1.iv x (List.mem_cons_of_mem _ hx) q hq (.old A z n c cs) (List.mem_cons_self ..) rfl hqr
      · exact st1.iv x (List.mem_cons_of_mem _ hx) q hq y (List.mem_cons_of_mem _ hy) hyb hqr
  · intro x hx B hB
    rcases List.mem_cons.1 hx with rfl | hx
    · cases hB
    · exact st1.ib x (List.mem_cons_of_mem _ hx) B hB
  · intro x hx r hr
    rcases List.mem_cons.1 hx with rfl | hx
    · exact st1.rk.2 (.old A z n c cs) (List.mem_cons_self ..) r hr
    · exact st1.rk.2 x (List.mem_cons_of_mem _ hx) r hr
/-- What a function that holds a range over a function owes at its end. -/
def RetM (P : Program) (fn : Func) (R : Ending → World → Prop) : Jd := fun a w => LeavesInM Fence.wide 9 P fn a.tmps R a.defers .returning w
theorem enter_m {P : Program} {f : FuncId} {fn : Func} {c : Code} {R : Ending → World → Prop} {w : World} (hf : P.funcs[f]? = some fn) (hb : fn.body = some c) (C : List Nat) (args : List Value) (h : List HA) (hN : Nat.ble args.length fn.ntmps = true) (hO : Own C h w)
    (hh : Tr ⟨fn.ntmps, C, w, w.heap.size, fun _ => True, []⟩ (enumS 0 args) h (Wp Fence.wide 9 P ⟨RetM P fn R, RetM P fn R, []⟩ c)) : Calls P f args.toArray w R := by
  refine (callsIn_wide (n := 9)).1 (callsIn_of_wp_marks hf hb trivial (wpIn_mono (hh _ _ (st_enter C args h (Nat.le_of_ble_eq_true hN) hO)) (fun e a w hq => ?_)) rfl)
  cases e with
  | normal => exact hq
  | ret => exact hq
  | exit i => obtain ⟨J, hj, _⟩ := hq; cases hj
  | goto _ => exact hq.elim
  | panic _ => exact hq.elim
  | outgrown => exact hq.elim
theorem T_finM0 {P : Program} {fn : Func} {s : List (Nat × Value)} {h : List HA} {N : Nat} {C : List Nat} {w0 : World} {rs : Nat → Prop} {T : Type} {q : T → Prop} {res : T → Value} {hs : T → List HA} (t : T) (hq : q t) (hv : ResV P fn s h (res t)) (is : List Nat) (hp : Pick h is (hs t)) (hr : (hs t).all HA.outB = true) :
    Tr ⟨N, C, w0, w0.heap.size, rs, []⟩ s h (RetM P fn (Ret C w0 q res hs)) := fun a w st => by
  unfold RetM; rw [st.df]
  exact ⟨_, hv _ st.sl _ st.ok, t, hq, rfl, post_of_st (st.pick hp) hr⟩
theorem T_finM {P : Program} {fn : Func} {s : List (Nat × Value)} {h : List HA} {N : Nat} {C : List Nat} {w0 : World} {rs : Nat → Prop} {T : Type} {q : T → Prop} {res : T → Value} {hs : T → List HA} {D : Nat} (i : Nat) (hi : h[i]? = some (.obj D (.deferred (some [])))) (t : T) (hq : q t) (hv : ResV P fn s (h.eraseIdx i) (res t)) (is : List Nat) (hp : Pick (h.eraseIdx i) is (hs t)) (hr : (hs t).all HA.outB = true) :
    Tr ⟨N, C, w0, w0.heap.size, rs, [{ target := .collected D, args := #[] }]⟩ s h (RetM P fn (Ret C w0 q res hs)) := fun a w st => by
  have st1 := st.perm (perm_erase h i _ hi)
  have hD : w.heap[D]? = some (.deferred (some [])) := st1.ok _ (List.mem_cons_self ..)
  have st2 := st1.putobj (.deferred none)
  have st3 : St _ s (h.eraseIdx i) a _ := St.drop (out := [_]) st2
  unfold RetM; rw [st.df]
  refine ⟨by simp, .inl ⟨D, _, rfl, run_takeDeferred hD, ?_⟩⟩
  exact ⟨_, hv _ st3.sl _ st3.ok, t, hq, rfl, post_of_st (st3.pick hp) hr⟩
/-- **A range over a function.** -/
theorem T_range {E : Bool} {Θ T Tx : Type} {n : Nat} {P : Program} {N : Nat} {C : List Nat} {w0 : World} {lo : Nat} {rs : Nat → Prop} {ds : List Deferred} {s : List (Nat × Value)} {h : List HA} {nrm ret : Jd} {ex : List (Nat × Jd)} {g : Operand} {ps : List Nat} {assign body : Code} {gf : FuncId} {cap : List Value} {rds : List HA} {nv : Nat} {xs : Nat → Θ → List Value} {hd : Nat → Θ → List HA}
    (hseq : SeqX E P gf cap rds nv xs hd) (hg : ev s g = some (.func (.func gf) #[] cap.toArray)) (hen : Go.Proofs.Enters P gf)
    (p : Nat → T → Prop) (η : Nat → T → List HA) (q : Tx → Prop) (ηx : Tx → List HA) (jid : Nat) (t0 : T) (h0 : p 0 t0) (is : List Nat) (hi : Pick h is (η 0 t0)) (js : List Nat) (hj : js.map (fun j => (h[j]?).map HA.asrd) = rds.map some) (hjr : js.all (fun j => match h[j]? with | some x => x.asrd.bs.isNone && x.ids.isEmpty | none => false) = true)
    (hηn' : ∀ k t, (η k t).all HA.plainB = true) (hηx' : ∀ t, (ηx t).all HA.plainB = true) (hdr : ∀ k θ, (hd k θ).all rdB = true) (hps : ∀ k θ, (xs k θ).length = ps.length) (hpN : ps.all (fun p => Nat.blt p N) = true)
    (hrs : ∀ r, rs r) (hround : ∀ (C2 : List Nat) (w2 : World) (lo2 : Nat) (rs2 : Nat → Prop) (l D m k : Nat) (t : T) (θ : Θ) (rec : Loop), rec.state = .ready → k < nv → p k t →
      Tr ⟨N, C2, w2, lo2, rs2, []⟩ (slotsOf ps (xs k θ) ++ s) (hd k θ ++ (.obj l (.loop rec) :: .obj D (.deferred (some [])) :: η k t))
        (Wp (Fence.wide.inRound l) m P ⟨Begun l m P ⟨N, C2, w2, lo2, rs2, []⟩ rec ⟨RoundOn l D ⟨N, C2, w2, lo2, rs2, []⟩ rec (p (k + 1)) (η (k + 1)), fun _ _ => False, [(jid, RoundOn l D ⟨N, C2, w2, lo2, rs2, []⟩ rec q ηx)]⟩ body, fun _ _ => False, []⟩ assign))
    (hdone : ∀ (D : Nat) (t : T), p nv t → Tr ⟨N, C, w0, lo, rs, { target := .collected D, args := #[] } :: ds⟩ s (.obj D (.deferred (some [])) :: η nv t) nrm)
    (hstop : ∀ (D : Nat) (t : Tx), q t → Tr ⟨N, C, w0, lo, rs, { target := .collected D, args := #[] } :: ds⟩ s (.obj D (.deferred (some [])) :: ηx t) (Wp Fence.wide n P ⟨nrm, ret, ex⟩ (.exit jid)))
    (hE : E = true → ∀ t, ¬ p nv t := by intro h; cases h) :
    Tr ⟨N, C, w0, lo, rs, ds⟩ s h (Wp Fence.wide n P ⟨nrm, ret, ex⟩ (.rangeFunc g ps.toArray assign body)) := fun a w st => by
  refine wpIn_rangeFunc fun fn hfn => ?_
  rw [show Fence.wide.round = none from rfl]
  have hηn : ∀ k t, ∀ x ∈ η k t, x.bs = none := fun k t x hx => plain_bs (List.all_eq_true.1 (hηn' k t) x hx)
  have hηx : ∀ t, ∀ x ∈ ηx t, x.bs = none := fun t x hx => plain_bs (List.all_eq_true.1 (hηx' t) x hx)
  let R0 : LoopState → Option Code → Loop := fun st pe => { state := st, pending := pe, fn, tmps := a.tmps, params := ps.toArray, assign, body, defers := w.heap.size }
  let X1 : Cx := ⟨N, C, w0, lo, rs, []⟩
  let a1 : Act := { tmps := a.tmps, defers := [] }
  have stA : ∀ {h' : List HA} {w' : World}, St ⟨N, C, w0, lo, rs, ds⟩ s h' a w' → St X1 s h' a1 w' := fun st => ⟨st.sz, rfl, st.sl, st.kp, st.ok, st.ll, st.fr, st.nd, st.dj, st.iv, st.ib, st.rk⟩
  let lI := w.heap.size + 1
  let D := w.heap.size
  let W1 := (w.alloc (.deferred (some []))).alloc (.loop (R0 .ready none))
  let hp := fun (r : Loop) (l : List HA) => HA.obj lI (.loop r) :: .obj D (.deferred (some [])) :: l
  have st0 : St X1 s (hp (R0 .ready none) (η 0 t0)) a1 W1 := by
    have h1 := (stA (st.pick hi)).newobj (.deferred (some []))
    have h2 := h1.newobj (.loop (R0 .ready none))
    rw [show (w.alloc (Obj.deferred (some []))).heap.size = lI from World.size_alloc _ _] at h2
    exact h2
  let J : JJ := fun k O R W => ∃ t, p k t ∧ St X1 s (hp (R0 .ready none) (η k t)) a1 W ∧ O = (hp (R0 .ready none) (η k t)).flatMap HA.ids ∧ R = (hp (R0 .ready none) (η k t)).flatMap HA.rids
  let Jx : JX := fun O R W => ∃ t, q t ∧ St X1 s (hp (R0 .done (some (.exit jid))) (ηx t)) a1 W ∧ O = (hp (R0 .done (some (.exit jid))) (ηx t)).flatMap HA.ids ∧ R = (hp (R0 .done (some (.exit jid))) (ηx t)).flatMap HA.rids
  have hpn : ∀ r l, (∀ x ∈ l, x.bs = none) → ∀ x ∈ hp r l, x.bs = none := by
    intro r l hl x hx
    rcases List.mem_cons.1 hx with rfl | hx
    · rfl
    · rcases List.mem_cons.1 hx with rfl | hx
      · rfl
      · exact hl x hx
  have hW1s : w.heap.size ≤ W1.heap.size := by show w.heap.size ≤ ((w.alloc _).alloc _).heap.size; simp; omega
  have hw0 : w0.heap.size ≤ W1.heap.size := Nat.le_trans st.kp.same.size hW1s
  refine ⟨lI, [{ target := .collected D, args := #[] }], W1, { target := .fn (.func gf) cap.toArray, args := #[.func (.yield lI) #[] #[]] }, W1, gf, (.func (.yield lI) #[] #[] :: cap).toArray, W1, ?_, ?_, fun f' _ => trivial, ?_, fun hh => absurd hh (by simp [Fence.wide]), ?_⟩
  · exact run_enterLoop_outer _ _ _ _ _
  · have hev : a.eval (.const (.func (.yield lI) #[] #[])) = .func (.yield lI) #[] #[] := rfl
    simp only [resolve, rangeCall, st.ag g _ hg]
    simp [Deferred.ofValue, hev]
  · have := hen (#[.func (.yield lI) #[] #[]] ++ cap.toArray) W1
    have e : (#[Value.func (.yield lI) #[] #[]] ++ cap.toArray) = (Value.func (.yield lI) #[] #[] :: cap).toArray := by simp
    rw [e] at this
    simp only [invoke]
    rw [e]; exact this
  · have hlow : ∀ {r : Loop} {l : List HA} {W : World}, St X1 s (hp r l) a1 W → ∀ i ∈ (hp r l).flatMap HA.ids ++ (hp r l).flatMap HA.rids, i < W.heap.size := by
      intro r l W hst i hin
      rcases List.mem_append.1 hin with h1 | h1 <;> obtain ⟨x, hx, hxi⟩ := List.mem_flatMap.1 h1
      · exact HA.lt (hst.ok x hx) i (List.mem_append.2 (.inl hxi))
      · exact HA.lt (hst.ok x hx) i (List.mem_append.2 (.inr hxi))
    have hrW : HOK rds W1 := by
      intro x hx
      have : some x ∈ js.map (fun j => (h[j]?).map HA.asrd) := by rw [hj]; exact List.mem_map.2 ⟨x, hx, rfl⟩
      obtain ⟨j, hjm, hje⟩ := List.mem_map.1 this
      obtain ⟨y, hy, rfl⟩ := Option.map_eq_some_iff.1 hje
      have hyh := List.mem_of_getElem? hy
      have hb := List.all_eq_true.1 hjr j hjm
      simp only [hy, Bool.and_eq_true, Option.isNone_iff_eq_none] at hb
      have hyb : y.bs = none := by have := hb.1; cases y <;> first | rfl | (cases this; done)
      refine asrd_ok (HA.ok_keep (st.ok y hyh) ⟨rfl, rfl, rfl, hW1s⟩ (fun i hin => ?_) (fun B hB => by rw [hyb] at hB; cases hB))
      have hlt := HA.lt (st.ok y hyh) i hin
      show ((w.alloc _).alloc _).heap[i]? = _
      rw [Below.heap_alloc _ _ _ (by simp; omega), Below.heap_alloc _ _ _ hlt]
    have hrO : ∀ x ∈ rds, ∀ r ∈ x.rids, r ∉ (hp (R0 .ready none) (η 0 t0)).flatMap HA.ids := by
      intro x hx r hr hin
      have : some x ∈ js.map (fun j => (h[j]?).map HA.asrd) := by rw [hj]; exact List.mem_map.2 ⟨x, hx, rfl⟩
      obtain ⟨j, hjm, hje⟩ := List.mem_map.1 this
      obtain ⟨y, hy, rfl⟩ := Option.map_eq_some_iff.1 hje
      have hyh := List.mem_of_getElem? hy
      rw [asrd_rids] at hr
      have hlt := HA.lt (st.ok y hyh) r (List.mem_append.2 (.inr hr))
      obtain ⟨z, hz, hzr⟩ := List.mem_flatMap.1 hin
      rcases List.mem_cons.1 hz with rfl | hz
      · simp [HA.ids] at hzr; omega
      · rcases List.mem_cons.1 hz with rfl | hz
        · simp [HA.ids] at hzr; omega
        · have hzh : z ∈ h := by
            have : some z ∈ is.map (h[·]?) := by rw [hi.2]; exact List.mem_map.2 ⟨z, hz, rfl⟩
            obtain ⟨i, _, hi'⟩ := List.mem_map.1 this
            exact List.mem_of_getElem? hi'
          exact st.dj y hyh z hzh r hr hzr
    refine (hseq lI J Jx W1 _ _ (n - 1) hrW hrO ?_ ?_ (hlow st0) ?_ (fun hEt O R W ⟨t, ht, _⟩ => hE hEt t ht) ⟨t0, h0, st0, rfl, rfl⟩).mono ?_
    · rintro k O R W W' ⟨t, ht, hst, rfl, rfl⟩ hs hb hin
      exact ⟨t, ht, hst.stab hw0 (hpn _ _ (hηn k t)) hs hb hin, rfl, rfl⟩
    · rintro O R W W' ⟨t, ht, hst, rfl, rfl⟩ hs hb hin
      exact ⟨t, ht, hst.stab hw0 (hpn _ _ (hηx t)) hs hb hin, rfl, rfl⟩
    · rintro k θ O R Wy m hk ⟨t, ht, hst, rfl, rfl⟩ hdk hdO
      have hlw : Wy.heap[lI]? = some (.loop (R0 .ready none)) := hst.ok _ (List.mem_cons_self ..)
      have hy := run_yield (P := P) (args := (xs k θ).toArray) hlw (by show (xs k θ).toArray.size = ps.toArray.size; simp [hps k θ])
      refine ⟨fn, _, assign, body, hy, roundIn_of_wpIn hfn ?_⟩
      have hzip : ((R0 .ready none).params.zip (xs k θ).toArray).foldl (fun tmps (x : Nat × Value) => tmps.setIfInBounds x.1 x.2) (R0 .ready none).tmps = (ps.zip (xs k θ)).foldl (fun (t : Array Value) (q : Nat × Value) => t.setIfInBounds q.1 q.2) a.tmps := by
        show (ps.toArray.zip (xs k θ).toArray).foldl _ a.tmps = _
        rw [List.zip_toArray]
        simp
      let O := (hp (R0 .ready none) (η k t)).flatMap HA.ids
      let R := (hp (R0 .ready none) (η k t)).flatMap HA.rids
      let rs2 : Nat → Prop := fun r => r ∈ O ∨ r ∈ R ∨ r ∈ (hd k θ).flatMap HA.rids
      let X2 : Cx := ⟨N, O, Wy, Wy.heap.size, rs2, []⟩
      have hOC : ∀ i ∈ O, i ∈ C ∨ lo ≤ i := fun i hi => by
        obtain ⟨x, hx, hxi⟩ := List.mem_flatMap.1 hi
        exact hst.fr x hx i (HA.ids_frs hxi)
      have st2 : St X2 s (hp (R0 .ready none) (η k t)) a1 Wy :=
        ⟨hst.sz, rfl, hst.sl, Keep.refl _ _, hst.ok, ⟨Nat.le_refl _, Nat.le_refl _⟩, fun x hx c hc => ?_, hst.nd, hst.dj, hst.iv, fun x hx B hB => (by rw [hpn _ _ (hηn k t) x hx] at hB; cases hB), ⟨fun c hc => .inl hc, fun x hx r hr => .inl (.inr (.inl (List.mem_flatMap.2 ⟨x, hx, hr⟩)))⟩⟩
      case refine_1 =>
        refine .inl (List.mem_flatMap.2 ⟨x, hx, ?_⟩)
        rcases List.mem_cons.1 hx with rfl | hx
        · exact hc
        · rcases List.mem_cons.1 hx with rfl | hx
          · exact hc
          · rwa [plain_frs (List.all_eq_true.1 (hηn' k t) x hx)] at hc
      have stR : St X2 (slotsOf ps (xs k θ) ++ s) (hd k θ ++ hp (R0 .ready none) (η k t)) { tmps := (ps.zip (xs k θ)).foldl (fun (t : Array Value) (q : Nat × Value) => t.setIfInBounds q.1 q.2) a.tmps, defers := [] } Wy := by
        have h1 := st2.addrd (hd k θ) hdk (hdr k θ) (hpn _ _ (hηn k t)) hdO (fun x hx r hr => .inr (.inr (List.mem_flatMap.2 ⟨x, hx, hr⟩)))
        refine ⟨by rw [foldl_size]; exact hst.sz, rfl, slotsOf_spec ps (xs k θ) a.tmps s ?_ hst.sl, h1.kp, h1.ok, h1.ll, h1.fr, h1.nd, h1.dj, h1.iv, h1.ib, h1.rk⟩
        intro p' hp'
        have := List.all_eq_true.1 hpN p' hp'
        have h3 : p' < N := Nat.le_of_ble_eq_true this
        have h4 : a.tmps.size = N := hst.sz
        omega
      have hw := hround O Wy Wy.heap.size rs2 lI D m k t θ (R0 .ready none) rfl hk ht _ _ stR
      have hw2 : assign.wpIn (Fence.wide.inRound lI) m P (Exit.then (fun a₁ w₁ => ∃ w₂, (Instr.beginRound lI).run P w₁ = .ok () w₂ ∧ body.wpIn (Fence.wide.inRound lI) m P (roundPost P lI (YP J Jx k (hd k θ) O R Wy)) a₁ w₂) (fun _ _ _ => False)) { tmps := (ps.zip (xs k θ)).foldl (fun (t : Array Value) (q : Nat × Value) => t.setIfInBounds q.1 q.2) a.tmps, defers := [] } Wy := by
        refine wpIn_mono hw (fun e a2 w2 hq => ?_)
        cases e with
        | ret => exact hq.elim
        | exit i => obtain ⟨_, hj2, _⟩ := hq; cases hj2
        | goto _ => exact hq.elim
        | panic _ => exact hq.elim
        | outgrown => exact hq.elim
        | normal =>
          obtain ⟨w3, hb3, hbody⟩ := hq
          refine ⟨w3, hb3, wpIn_mono hbody (fun e a4 w4 hq4 => ?_)⟩
          have finish : ∀ (l' : List HA) (jump : Option Code) (r'' : Loop), St X2 [] (hp (R0 .busy none) l') a4 w4 → (r'' = { R0 .busy none with state := if jump.isNone then .ready else .done, pending := jump }) → (∀ x ∈ l', x.bs = none) →
              ∃ w', (Instr.endRound lI jump).run P w4 = .ok (.bool jump.isNone) w' ∧ St X1 s (hp r'' l') a1 w' ∧ (∀ i ∈ (hp r'' l').flatMap HA.ids, i ∈ O ∨ Wy.heap.size ≤ i) ∧ (∀ i ∈ (hp r'' l').flatMap HA.rids, i ∈ O ∨ i ∈ R ∨ i ∈ (hd k θ).flatMap HA.rids ∨ Wy.heap.size ≤ i) ∧ Keep O Wy w' := by
            intro l' jump r'' hst4 hr'' hl'
            have hl4 : w4.heap[lI]? = some (.loop (R0 .busy none)) := hst4.ok _ (List.mem_cons_self ..)
            refine ⟨_, run_endRound jump hl4, ?_⟩
            subst hr''
            have h5 := hst4.putobj (.loop { R0 .busy none with state := if jump.isNone then .ready else .done, pending := jump })
            have hid : ∀ x ∈ hp { R0 .busy none with state := if jump.isNone then .ready else .done, pending := jump } l', ∀ c ∈ x.frs, c ∈ O ∨ Wy.heap.size ≤ c := fun x hx c hc => h5.fr x hx c hc
            refine ⟨⟨hst.sz, rfl, hst.sl, hst.kp.trans h5.kp (fun i hi => (hOC i hi).imp id (fun h => Nat.le_trans st.ll.1 h)), h5.ok, ⟨st.ll.1, Nat.le_trans hst.ll.2 h5.kp.same.size⟩, fun x hx c hc => (hid x hx c hc).elim (fun h => hOC c h) (fun h => .inr (Nat.le_trans hst.ll.2 h)), h5.nd, h5.dj, fun x hx q hq => (by rw [os_of_bs (hpn _ _ hl' x hx)] at hq; cases hq), fun x hx B hB => (by rw [hpn _ _ hl' x hx] at hB; cases hB), ⟨hst.rk.1, fun x hx r hr => .inl (hrs r)⟩⟩, ?_, ?_, h5.kp⟩
            · intro i hi
              obtain ⟨x, hx, hxi⟩ := List.mem_flatMap.1 hi
              exact hid x hx i (HA.ids_frs hxi)
            · intro i hi
              obtain ⟨x, hx, hxi⟩ := List.mem_flatMap.1 hi
              rcases h5.rk.2 x hx i hxi with (h6 | h6 | h6) | h6
              · exact .inl h6
              · exact .inr (.inl h6)
              · exact .inr (.inr (.inl h6))
              · exact .inr (.inr (.inr h6))
          cases e with
          | normal =>
            obtain ⟨t', ht', hst4⟩ := hq4
            obtain ⟨w', hr, hst5, h6, h7, h8⟩ := finish _ none (R0 .ready none) hst4 rfl (hηn _ _)
            exact ⟨_, w', hr, _, _, h6, h7, h8, fun i hi => hlow hst5 i hi, .inl ⟨rfl, t', ht', hst5, rfl, rfl⟩⟩
          | exit i =>
            obtain ⟨J', hj', hq5⟩ := hq4
            have hij : i = jid := by
              by_cases hij : i = jid
              · exact hij
              · rw [List.lookup_cons] at hj'
                have : (i == jid) = false := by simpa using hij
                rw [this] at hj'; cases hj'
            subst hij
            rw [List.lookup_cons] at hj'
            simp only [beq_self_eq_true, Option.some.injEq] at hj'
            subst hj'
            obtain ⟨t', ht', hst4⟩ := hq5
            obtain ⟨w', hr, hst5, h6, h7, h8⟩ := finish _ (some (.exit i)) (R0 .done (some (.exit i))) hst4 rfl (hηx _)
            exact ⟨_, w', hr, _, _, h6, h7, h8, fun i hi => hlow hst5 i hi, .inr ⟨rfl, t', ht', hst5, rfl, rfl⟩⟩
          | ret => exact hq4.elim
          | goto _ => exact hq4.elim
          | panic _ => exact hq4.elim
          | outgrown => exact hq4.elim
      have e2 : (fun (tmps : Array Value) (x : Nat × Value) => match x with | (t, a) => tmps.setIfInBounds t a) = (fun (tmps : Array Value) (x : Nat × Value) => tmps.setIfInBounds x.1 x.2) := rfl
      rw [← hzip] at hw2
      exact hw2
    · rintro e W3 ⟨⟨v, rfl⟩, O', R', hJ⟩
      rcases hJ with ⟨t, ht, hst, -, -⟩ | ⟨t, ht, hst, -, -⟩
      · have hl3 : W3.heap[lI]? = some (.loop (R0 .ready none)) := hst.ok _ (List.mem_cons_self ..)
        have hr := run_endLoop (P := P) hl3 (by simp [R0])
        refine ⟨none, _, hr, ?_⟩
        have h5 := hst.putobj (.loop { R0 .ready none with state := .exhausted })
        have h6 : St X1 s (.obj D (.deferred (some [])) :: η nv t) a1 _ := St.drop (out := [_]) h5
        exact hdone D t ht _ _ ⟨h6.sz, by show _ ++ _ = _; rw [st.df]; rfl, h6.sl, h6.kp, h6.ok, h6.ll, h6.fr, h6.nd, h6.dj, h6.iv, h6.ib, h6.rk⟩
      · have hl3 : W3.heap[lI]? = some (.loop (R0 .done (some (.exit jid)))) := hst.ok _ (List.mem_cons_self ..)
        have hr := run_endLoop (P := P) hl3 (by simp [R0])
        refine ⟨some (.exit jid), _, hr, ?_⟩
        have h5 := hst.putobj (.loop { R0 .done (some (.exit jid)) with state := .exhausted })
        have h6 : St X1 s (.obj D (.deferred (some [])) :: ηx t) a1 _ := St.drop (out := [_]) h5
        exact hstop D t ht _ _ ⟨h6.sz, by show _ ++ _ = _; rw [st.df]; rfl, h6.sl, h6.kp, h6.ok, h6.ll, h6.fr, h6.nd, h6.dj, h6.iv, h6.ib, h6.rk⟩
end Go.Proofs.YtlplpmkdebemnaaGreat.Fw
namespace Go.Proofs.YtlplpmkdebemnaaGreat
open Go.RowKit Bv
section
variable {P : Program} (w : World)
end
end Go.Proofs.YtlplpmkdebemnaaGreat
namespace Go.Proofs.YtlplpmkdebemnaaGreat.Fw
open Go.RowKit Bv
/-- The text of some bytes. -/
def sob (xs : List (BitVec 8)) : ByteArray := ⟨(xs.map fun b => (⟨b⟩ : UInt8)).toArray⟩
theorem sob_inj {xs ys : List (BitVec 8)} (h : sob xs = sob ys) : xs = ys := by
  have h2 : (xs.map fun b => (⟨b⟩ : UInt8)) = (ys.map fun b => (⟨b⟩ : UInt8)) := by
    have := congrArg (fun s : ByteArray => s.data.toList) h
    simpa [sob] using this
  have h3 := congrArg (List.map UInt8.toBitVec) h2
  rw [List.map_map, List.map_map, show (UInt8.toBitVec ∘ fun b : BitVec 8 => (⟨b⟩ : UInt8)) = id from rfl, List.map_id, List.map_id] at h3
  exact h3
theorem ba_inj {a b : ByteArray} (h : a.data.toList = b.data.toList) : a = b := by
  cases a; cases b; simp at h; rw [h]
theorem sob_beq (xs ys : List (BitVec 8)) : ((sob xs).toList == (sob ys).toList) = decide (xs = ys) := by
  rw [ByteArray.toList_eq, ByteArray.toList_eq, Bool.eq_iff_iff, beq_iff_eq, decide_eq_true_eq]
  exact ⟨fun h => sob_inj (ba_inj h), fun h => by rw [h]⟩
section
variable {P : Program} {X : Cx} {s : List (Nat × Value)} {h : List HA} {a : Act} {w : World} {o : Oper} {K K0 : Jd} {v : Value}
theorem run_cbs (w : World) (src e dst : TypeId) (hs : P.underlying src = some (.slice e)) (he : P.underlying e = some (.int .u8)) (hd : P.underlying dst = some .string)
    {A : Option Addr} {n c : Nat} {xs : List (BitVec 8)} (h : RdV w A 1 n c (xs.map b8)) : (convert src dst (.slice A n c)).run P w = .ok (.string (sob xs)) w := by
  cases A with
  | none =>
    have := h.isn rfl
    have hn : n = 0 := by have := h.le; omega
    subst hn
    have : xs = [] := List.eq_nil_of_length_eq_zero (by have := h.len; simpa using this)
    subst this
    exact run_convert_bytes_nil w src e hs he 0 c dst hd
  | some ad =>
    have hl : (loadCells ad n).run P w = .ok ((xs.map n8).map (Value.int .u8)).toArray w := by
      have h2 := run_loadCells_list (P := P) w ad (xs.map b8) (fun j v hj => h.cells ad rfl j v hj)
      have h3 : (xs.map b8).length = n := by have := h.len; simpa using this
      rw [h3] at h2
      simpa [List.map_map, Function.comp_def] using h2
    rw [run_convert_bytes_string w src dst e _ n c hs he hd, run_bytesToString w _ n c _ hl, foldl_push_bytes]
    have hf : ((fun n => UInt8.ofNat n.toNat) ∘ n8) = fun b : BitVec 8 => (⟨b⟩ : UInt8) := by
      funext b; simp [n8]
    simp only [sob, ByteArray.empty, ByteArray.emptyWithCapacity, List.map_map, hf]
    simp
    rfl
theorem ld_str {A : Option Addr} {n c : Nat} {xs : List (BitVec 8)} {x : Operand} {src dst e : TypeId} (hs : Src h A 1 n c (xs.map b8)) (h1 : P.underlying src = some (.slice e)) (h2 : P.underlying e = some (.int .u8)) (h3 : P.underlying dst = some .string) (ho : o.op = .convert src dst x) (hx : ev s x = some (.slice A n c)) : Ld P s h o (.string (sob xs)) := fun e' he w hw => by
  unfold execOp; rw [ho]
  simp only [he _ _ hx]
  rw [Sem.run_bind, run_cbs w src e dst h1 h2 h3 (hs w hw).1]; rfl
theorem pr_strne {t t2 : TypeId} {x y : Operand} {xs ys : List (BitVec 8)} (ho : o.op = .binOp .neq t x y t2) (hx : ev s x = some (.string (sob xs))) (hy : ev s y = some (.string (sob ys))) : Pr P s h o (.bool (!decide (xs = ys))) := fun e he w hw w' => by
  have hb := sob_beq xs ys
  unfold execOp; rw [ho]
  simp only [he _ _ hx, he _ _ hy]
  have hg : (eqGuard .neq t x y (.string (sob xs)) (.string (sob ys))).run P w' = .ok () w' := by unfold eqGuard; simp
  rw [Sem.run_bind, Sem.run_bind, hg]
  simp [binOp, Op.stringOp, bne, hb]
/-- A row that a text's bytes lie in: nobody writes it. -/
theorem op_mark {d : Nat} {t e e2 : TypeId} {x : Operand} {g n c : Nat} {cs zs : List Value} (i : Nat) (hi : h[i]? = some (.blk g e2 cs)) (ht : P.underlying t = some (.slice e)) (he : P.underlying e = some (.int .u8)) (hnc : n ≤ c) (hc : c ≤ 9223372036854775807) (hl : zs.length = n) (hz : cs.take n = zs)
    (ho : o.op = .convert t t x) (hx : ev s x = some (.slice (some ⟨g, 0, none⟩) n c)) (hd : o.dst = some d) (hN : Nat.blt d X.N = true)
    (hh : Tr X ((d, .slice (some ⟨g, 0, none⟩) n c) :: s) (.old (some ⟨g, 0, none⟩) 1 n c zs :: h.eraseIdx i) K) : Tr X s h (Op P o K K0) := fun a w st => by
  have hb : w.heap[g]? = some (.cells cs.toArray e2 (0, 0)) := st.ok _ (List.mem_of_getElem? hi)
  have hlt := (Array.getElem?_eq_some_iff.1 hb).1
  have hr : (execOp a.eval o).run P w = .ok (.value (.slice (some ⟨g, 0, none⟩) n c)) (w.freeze ⟨g, cs.length, none⟩ 1) := by
    unfold execOp; rw [ho]
    simp [st.ag _ _ hx, convert, run_underlying ht, run_underlying he, markStringish, shape, freeze, Sem.run, World.shape?, hb]
  have hf : (w.freeze ⟨g, cs.length, none⟩ 1).heap[g]? = some (.cells cs.toArray e2 (cs.length, cs.length + 1)) := by
    simp [World.freeze, Array.getElem?_modify, hb]
  have hcell : ∀ ad : Addr, ad.block = g → (w.freeze ⟨g, cs.length, none⟩ 1).cell? ad = w.cell? ad := by
    intro ad had; simp [World.cell?, had, hf, hb]
  have hrd := rdv_blk (w := w) (g := g) (m := 0) (z := 1) (n := n) (c := c) (ds := zs) hb (by simpa using hl) (by simpa using hz) hnc hc
  refine op_val hr ?_
  rw [hd]
  refine hh _ _ (st.swapv [.blk g e2 cs] (h.eraseIdx i) [.old (some ⟨g, 0, none⟩) 1 n c zs] (perm_erase h i _ hi) hN _ ⟨⟨rfl, rfl, rfl, by simp [World.freeze]⟩, fun k _ hk => ?_⟩ ?_ ?_ ?_ ?_)
  · simp only [World.freeze, if_neg (show ¬ (1 = 0) by omega), Array.getElem?_modify]
    rw [if_neg (fun e => hk (by simp [HA.ids, e]))]
  · intro x hx; rw [List.mem_singleton] at hx; subst hx
    refine ⟨⟨hrd.len, hrd.le, hrd.most, hrd.isn, fun ad e j v hj => ?_⟩, fun ad e => ?_⟩
    · rw [hcell _ (by rw [add_block]; cases e; rfl)]; exact hrd.cells ad e j v hj
    · cases e; intro _; simpa [World.freeze] using hlt
  · intro x hx k hk; rw [List.mem_singleton] at hx; subst hx; exact .inl (by obtain ⟨_, ad, e1, h2⟩ := mem_rid.1 hk; cases e1; simp [HA.ids, ← h2])
  · simp [HA.ids]
  · intro x hx r hr; rw [List.mem_singleton] at hx; subst hx; exact ⟨hr, by intro y hy; rw [List.mem_singleton] at hy; subst hy; simp [HA.ids]⟩
end
end Go.Proofs.YtlplpmkdebemnaaGreat.Fw
namespace Go.Proofs.YtlplpmkdebemnaaGreat.Fw
open Go.RowKit Bv
variable {X : Cx} {s : List (Nat × Value)} {h : List HA} {P : Program} {o : Oper} {K K0 : Jd}
/-- s[:k], up to the capacity. -/
theorem pr_slup {t e : TypeId} {x hi : Operand} {A : Option Addr} {n c u z : Nat} {k2 : IntKind} (huc : u ≤ c) (ht : P.underlying t = some (.slice e)) (hz : (P.info? e).map (·.size) = some z)
    (ho : o.op = .slice t x none (some hi) none) (hx : ev s x = some (.slice A n c)) (hu : ev s hi = some (.int k2 (u : Int))) : Pr P s h o (.slice A u c) := fun e' he w hw w' => by
  have g1 : (0 : Int) ≤ (u : Int) ∧ (u : Int) ≤ c := by omega
  have g5 : ¬ c < u := by omega
  unfold execOp; rw [ho]
  cases A with
  | none => simp [he _ _ hx, he _ _ hu, Instr.sliceAt, run_underlying ht, Instr.slice, Instr.sliceBounds, Instr.sliceBound, asIntOf, g1, huc, g5, run_sizeOf hz]
  | some ad => simp [he _ _ hx, he _ _ hu, Instr.sliceAt, run_underlying ht, Instr.slice, Instr.sliceBounds, Instr.sliceBound, asIntOf, g1, huc, g5, run_sizeOf hz, add0]
/-- s[:k:k], up to the capacity. -/
theorem pr_slup3 {t e : TypeId} {x hi mx : Operand} {A : Option Addr} {n c u z : Nat} {k2 k3 : IntKind} (huc : u ≤ c) (ht : P.underlying t = some (.slice e)) (hz : (P.info? e).map (·.size) = some z)
    (ho : o.op = .slice t x none (some hi) (some mx)) (hx : ev s x = some (.slice A n c)) (hu : ev s hi = some (.int k2 (u : Int))) (hm : ev s mx = some (.int k3 (u : Int))) : Pr P s h o (.slice A u u) := fun e' he w hw w' => by
  have g1 : (0 : Int) ≤ (u : Int) ∧ (u : Int) ≤ c := by omega
  have g5 : ¬ c < u := by omega
  unfold execOp; rw [ho]
  cases A with
  | none => simp [he _ _ hx, he _ _ hu, he _ _ hm, Instr.sliceAt, run_underlying ht, Instr.slice, Instr.sliceBounds, Instr.sliceBound, asIntOf, g1, huc, g5, run_sizeOf hz]
  | some ad => simp [he _ _ hx, he _ _ hu, he _ _ hm, Instr.sliceAt, run_underlying ht, Instr.slice, Instr.sliceBounds, Instr.sliceBound, asIntOf, g1, huc, g5, run_sizeOf hz, add0]
/-- The same, with less room. -/
theorem T_prec {J : Jd} (i : Nat) {A : Option Addr} {z n c : Nat} {cs : List Value} (m c2 : Nat) (cs' : List Value) (hi : h[i]? = some (.old A z n c cs)) (hm : m ≤ n) (hm2 : m ≤ c2) (hc2 : c2 ≤ c) (h0 : 0 < c2) (hc : cs.take (m * z) = cs') (hh : Tr X s (.old A z m c2 cs' :: h) J) : Tr X s h J := fun a w st => by
  have hmem := List.mem_of_getElem? hi
  have hx := st.ok _ hmem
  have hsub : ∀ r, r ∈ rid A c2 → r ∈ rid A c := fun r hr => mem_rid.2 ⟨by omega, (mem_rid.1 hr).2⟩
  have hr : RdV w A z m c2 cs' := by
    subst hc
    have hle : m * z ≤ n * z := Nat.mul_le_mul_right z hm
    refine ⟨by rw [List.length_take, hx.1.len]; omega, hm2, Nat.le_trans hc2 hx.1.most, fun e => absurd (hx.1.isn e) (by omega), fun ad e j v hj => ?_⟩
    rw [List.getElem?_take] at hj
    split at hj
    · exact hx.1.cells ad e j v hj
    · cases hj
  refine hh a w ⟨st.sz, st.df, st.sl, st.kp, ?_, st.ll, ?_, ?_, ?_, ?_, ?_, ⟨st.rk.1, ?_⟩⟩
  · intro x hx'
    rcases List.mem_cons.1 hx' with rfl | hx'
    · exact ⟨hr, fun ad e _ => hx.2 ad e (by omega)⟩
    · exact st.ok x hx'
  · intro x hx' k hk
    rcases List.mem_cons.1 hx' with rfl | hx'
    · exact st.fr _ hmem k (hsub k hk)
    · exact st.fr x hx' k hk
  · simpa [HA.ids] using st.nd
  · intro x hx' y hy r hrr
    rcases List.mem_cons.1 hy with rfl | hy
    · simp [HA.ids]
    · rcases List.mem_cons.1 hx' with rfl | hx'
      · exact st.dj _ hmem y hy r (hsub r hrr)
      · exact st.dj x hx' y hy r hrr
  · intro x hx' o ho y hy hyb hor
    rcases List.mem_cons.1 hx' with rfl | hx'
    · cases ho
    · rcases List.mem_cons.1 hy with rfl | hy
      · exact st.iv x hx' o ho _ hmem rfl (hsub o hor)
      · exact st.iv x hx' o ho y hy hyb hor
  · intro x hx' B hB
    rcases List.mem_cons.1 hx' with rfl | hx'
    · cases hB
    · exact st.ib x hx' B hB
  · intro x hx' r hrr
    rcases List.mem_cons.1 hx' with rfl | hx'
    · exact st.rk.2 _ hmem r (hsub r hrr)
    · exact st.rk.2 x hx' r hrr
/-- One more word that is read. -/
theorem T_rdadd {J : Jd} (x : HA) (h1 : x.ids = []) (h2 : x.frs = []) (h3 : x.os = []) (h4 : x.bs = none) (hok : ∀ w, HOK h w → x.ok w) (hr : ∀ r ∈ x.rids, ∃ y ∈ h, y.bs = none ∧ r ∈ y.rids) (hh : Tr X s (x :: h) J) : Tr X s h J := fun a w st => by
  refine hh a w ⟨st.sz, st.df, st.sl, st.kp, ?_, st.ll, ?_, ?_, ?_, ?_, ?_, ⟨st.rk.1, ?_⟩⟩
  · intro y hy
    rcases List.mem_cons.1 hy with hyx | hy2
    · rw [hyx]; exact hok w st.ok
    · exact st.ok y hy2
  · intro y hy k hk
    rcases List.mem_cons.1 hy with hyx | hy2
    · rw [hyx, h2] at hk; cases hk
    · exact st.fr y hy2 k hk
  · simpa [h1] using st.nd
  · intro y hy z hz r hrr
    rcases List.mem_cons.1 hz with hzx | hz2
    · simp [hzx, h1]
    · rcases List.mem_cons.1 hy with hyx | hy2
      · obtain ⟨y', hy', _, hr'⟩ := hr r (hyx ▸ hrr)
        exact st.dj y' hy' z hz2 r hr'
      · exact st.dj y hy2 z hz2 r hrr
  · intro y hy o ho z hz hzb hor
    rcases List.mem_cons.1 hy with hyx | hy2
    · rw [hyx, h3] at ho; cases ho
    · rcases List.mem_cons.1 hz with hzx | hz2
      · obtain ⟨y', hy', hb', hr'⟩ := hr o (hzx ▸ hor)
        exact st.iv y hy2 o ho y' hy' hb' hr'
      · exact st.iv y hy2 o ho z hz2 hzb hor
  · intro y hy B hB
    rcases List.mem_cons.1 hy with hyx | hy2
    · rw [hyx, h4] at hB; cases hB
    · exact st.ib y hy2 B hB
  · intro y hy r hrr
    rcases List.mem_cons.1 hy with hyx | hy2
    · obtain ⟨y', hy', _, hr'⟩ := hr r (hyx ▸ hrr)
      exact st.rk.2 y' hy' r hr'
    · exact st.rk.2 y hy2 r hrr
theorem T_allnil {J : Jd} (hh : Tr X s (.all [] :: h) J) : Tr X s h J := T_rdadd (.all []) rfl rfl rfl rfl (fun w _ p hp => by cases hp) (fun r hr => by simp [HA.rids] at hr) hh
/-- A list of slices, and one more. -/
theorem T_alladd {J : Jd} (i j : Nat) {L : List Pt} {A : Option Addr} {n c : Nat} {xs : List (BitVec 8)} (hi : h[i]? = some (.all L)) (hj : h[j]? = some (.rd A 1 n c (xs.map b8))) (hh : Tr X s (.all (L ++ [⟨A, n, c, xs⟩]) :: h) J) : Tr X s h J :=
  T_rdadd (.all (L ++ [⟨A, n, c, xs⟩])) rfl rfl rfl rfl (fun w hw p hp => by
    rcases List.mem_append.1 hp with hp | hp
    · exact (hw _ (List.mem_of_getElem? hi) : (HA.all L).ok w) p hp
    · rw [List.mem_singleton] at hp; subst hp
      exact (hw _ (List.mem_of_getElem? hj) : (HA.rd A 1 n c (xs.map b8)).ok w))
    (fun r hr => by
      simp only [HA.rids, List.flatMap_append, List.flatMap_cons, List.flatMap_nil, List.append_nil] at hr
      rcases List.mem_append.1 hr with hr | hr
      · exact ⟨_, List.mem_of_getElem? hi, rfl, hr⟩
      · exact ⟨_, List.mem_of_getElem? hj, rfl, hr⟩) hh
theorem zw_i64 {z : Int} (h : -9223372036854775808 ≤ z ∧ z ≤ 9223372036854775807) : IntKind.i64.wrap z = z := by rw [IntKind.wrap_i64]; omega
theorem all_nil (w : World) : (HA.all []).ok w := by intro p hp; cases hp
theorem all_cons {w : World} {A : Option Addr} {n c : Nat} {xs : List (BitVec 8)} {L : List Pt} (h : (HA.rd A 1 n c (xs.map b8)).ok w) (t : (HA.all L).ok w) : (HA.all (⟨A, n, c, xs⟩ :: L)).ok w := by
  intro p hp
  rcases List.mem_cons.1 hp with rfl | hp
  · exact h
  · exact t p hp
theorem all_app {w : World} {L M : List Pt} (h : (HA.all L).ok w) (t : (HA.all M).ok w) : (HA.all (L ++ M)).ok w := by
  intro p hp
  rcases List.mem_append.1 hp with hp | hp
  · exact h p hp
  · exact t p hp
end Go.Proofs.YtlplpmkdebemnaaGreat.Fw
namespace Go.Proofs.YtlplpmkdebemnaaGreat.Fw
open Go.RowKit Bv Go.ChangeShapes
section
variable {H : Type} {enc : TypeId × Value → H} {P : Program} {w : World} {base : Nat} {held : Bool} {t e : TypeId}
theorem list_of {β : Type} {p : Nat → β → Prop} : ∀ (n : Nat), (∀ i, i < n → ∃ b, p i b) → ∃ L : List β, L.length = n ∧ ∀ i b, L[i]? = some b → p i b
  | 0, _ => ⟨[], rfl, fun i b h => by simp at h⟩
  | n + 1, h => by
    obtain ⟨L, hl, hL⟩ := list_of n (fun i hi => h i (by omega))
    obtain ⟨b, hb⟩ := h n (by omega)
    refine ⟨L ++ [b], by simp [hl], fun i c hc => ?_⟩
    by_cases hi : i < n
    · rw [List.getElem?_append_left (by omega)] at hc
      exact hL i c hc
    · rw [List.getElem?_append_right (by omega)] at hc
      have h0 : i - L.length = 0 := by
        have := (List.getElem?_eq_some_iff.1 hc).1
        simpa using this
      rw [h0] at hc
      simp only [List.getElem?_cons_zero, Option.some.injEq] at hc
      subst hc
      obtain rfl : i = n := by omega
      exact hb
end
/-- How a walk by facts ends a law. -/
theorem law_of_ret {P : Program} {f : FuncId} {args : Array Value} {w : World} {q : Unit → Prop} {hs : Unit → List HA} (h : Calls P f args w (Ret [] w q (fun _ => .bool true) hs)) : Calls P f args w fun e W' => e = .returned (.bool true) ∧ Below w.heap.size w W' := below_of_ret h
end Go.Proofs.YtlplpmkdebemnaaGreat.Fw
namespace Go.Proofs.YtlplpmkdebemnaaGreat.Fw
open Go.RowKit Bv Go.ChangeShapes
section
variable {H : Type} {enc : TypeId × Value → H} {P : Program} {w : World} {base : Nat} {held : Bool} {t e : TypeId}
theorem cons_of {α : Type} {l : List α} {n : Nat} (h : l.length = n + 1) : ∃ a r, l = a :: r ∧ r.length = n := by
  cases l with
  | nil => cases h
  | cons a r => exact ⟨a, r, rfl, by simpa using h⟩
/-- How a struct by value reads: each field by itself. -/
theorem open_struct {fs : Array Field} {r : Reach} {b0 : Nat} {v : Value} (ht : P.underlying t = some (.struct fs)) (hv : Value.okWide P w r b0 t v) {fuel : Nat} {x : DataW H × List MemPlace}
    (hf : DataW.trod enc P w base (fun _ => true) held fuel t v.cells.toList = some x) : ∃ cs : List Value, v = .agg cs.toArray ∧ cs.length = P.cellsOf t ∧ ∀ (i : Nat) (f : Field), fs[i]? = some f → ∃ n y, DataW.trod enc P w base (fun _ => true) held n f.type ((cs.drop f.offset).take (P.cellsOf f.type)) = some y := by
  obtain ⟨cs, rfl, hsz⟩ := WideShapes.okWide_struct ht hv
  simp only [Value.cells] at hf
  obtain ⟨xs, n, -, -, hl, hxl, hfs⟩ := DataW.trod_struct ht hf
  refine ⟨cs.toList, by simp, by simpa using hsz, fun i f hi => ?_⟩
  have h1 := hfs i f hi
  have h2 : i < xs.length := by rw [hxl]; exact (Array.getElem?_eq_some_iff.1 hi).1
  rw [List.getElem?_eq_getElem h2] at h1
  exact ⟨n, _, h1⟩
variable {fs : Array Field} {cs : List Value}
theorem field_int {k : IntKind} {c : Value} (hs : ∀ (i : Nat) (f : Field), fs[i]? = some f → ∃ n y, DataW.trod enc P w base (fun _ => true) held n f.type ((cs.drop f.offset).take (P.cellsOf f.type)) = some y) (i : Nat) {f : Field} (hi : fs[i]? = some f) (ht : P.underlying f.type = some (.int k)) (hc : P.cellsOf f.type = 1) (hd : (cs.drop f.offset).take 1 = [c]) :
    ∃ n, c = .int k n ∧ (Lit.int k n).wf = true := by
  obtain ⟨n, y, h⟩ := hs i f hi
  rw [hc, hd] at h
  obtain ⟨z, h2, _, h3⟩ := DataW.trod_int ht h
  exact ⟨z, by simpa using h2, h3⟩
theorem field_bool {c : Value} (hs : ∀ (i : Nat) (f : Field), fs[i]? = some f → ∃ n y, DataW.trod enc P w base (fun _ => true) held n f.type ((cs.drop f.offset).take (P.cellsOf f.type)) = some y) (i : Nat) {f : Field} (hi : fs[i]? = some f) (ht : P.underlying f.type = some .bool) (hc : P.cellsOf f.type = 1) (hd : (cs.drop f.offset).take 1 = [c]) :
    ∃ b, c = .bool b := by
  obtain ⟨n, y, h⟩ := hs i f hi
  rw [hc, hd] at h
  obtain ⟨z, h2, _⟩ := DataW.trod_bool ht h
  exact ⟨z, by simpa using h2⟩
end
end Go.Proofs.YtlplpmkdebemnaaGreat.Fw
namespace Go.Proofs.YtlplpmkdebemnaaGreat.Fw
open Go.RowKit Bv
/-- A closed word, asked of the kernel. -/
theorem kr {p : Prop} (h : p := by kernel_rfl) : p := h
def LoopK (F : Fence) (n : Nat) (P : Program) (nrm ret : Jd) (ex : List (Nat × Jd)) (x : Code) : Nat → Jd
  | 0 => fun _ _ => False
  | m + 1 => Wp F n P ⟨LoopK F n P nrm ret ex x m, ret, ex⟩ x
section
variable {F : Fence} {n : Nat} {P : Program} {X : Cx} {s : List (Nat × Value)} {h : List HA} {nrm ret : Jd} {ex : List (Nat × Jd)} {x : Code}
theorem T_rounds (m : Nat) (hh : Tr X s h (LoopK F n P nrm ret ex x m)) : Tr X s h (Wp F n P ⟨nrm, ret, ex⟩ (.loop x)) := fun a w st => by
  refine wpIn_loop_rounds m ?_
  have key : ∀ m a w, LoopK F n P nrm ret ex x m a w → Code.roundsIn F n P x (toQ ⟨nrm, ret, ex⟩) m a w := by
    intro m
    induction m with
    | zero => intro a w h; exact h.elim
    | succ m ih => intro a w h; exact wpIn_mono h (fun e a w hq => by cases e <;> first | exact ih _ _ hq | exact hq)
  exact key m a w (hh a w st)
theorem T_round {m : Nat} (hh : Tr X s h (Wp F n P ⟨LoopK F n P nrm ret ex x m, ret, ex⟩ x)) : Tr X s h (LoopK F n P nrm ret ex x (m + 1)) := hh
end
section
variable {F : Fence} {n : Nat} {P : Program} {X : Cx} {s : List (Nat × Value)} {h : List HA} {nrm ret K K0 : Jd} {ex : List (Nat × Jd)} {ops : Array Oper} {o : Oper} {os : List Oper} {d : Nat} {v : Value}
theorem lm {x : Operand} (hw : wantS ops s o = some true) (ho : o.op = .move x) (hx : ev s x = some v) (hd : o.dst = some d) (hN : Nat.blt d X.N = true) (hh : Tr X ((d, v) :: s) h (Ls P ops K os)) : Tr X s h (Ls P ops K (o :: os)) := L_op hw (op_pr (pr_move ho hx) hd hN hh)
theorem la {x : Operand} (hw : wantS ops s o = some true) (ho : o.op = .assign x) (hx : ev s x = some v) (hd : o.dst = some d) (hN : Nat.blt d X.N = true) (hh : Tr X ((d, v) :: s) h (Ls P ops K os)) : Tr X s h (Ls P ops K (o :: os)) := L_op hw (op_pr (pr_assign ho hx) hd hN hh)
theorem lo (hw : wantS ops s o = some true) (hp : Pr P s h o v) (hd : o.dst = some d) (hN : Nat.blt d X.N = true) (hh : Tr X ((d, v) :: s) h (Ls P ops K os)) : Tr X s h (Ls P ops K (o :: os)) := L_op hw (op_pr hp hd hN hh)
theorem lq (hw : wantS ops s o = some true) (hp : Ld P s h o v) (hd : o.dst = some d) (hN : Nat.blt d X.N = true) (hh : Tr X ((d, v) :: s) h (Ls P ops K os)) : Tr X s h (Ls P ops K (o :: os)) := L_op hw (op_ld hp hd hN hh)
theorem Tsr {id : Nat} {y : Code} (hF : Wid F) (hd : noDefer os = true) (hh : Tr X s h (Ls P os.toArray (Wp F n P ⟨nrm, ret, ex⟩ y) os)) : Tr X s h (Wp F n P ⟨nrm, ret, ex⟩ (.seq (.region id os.toArray false) y)) := T_seq (T_reg hF hd hh)
theorem lM {x : Operand} (hh : Tr X ((d, v) :: s) h (Ls P ops K os)) (hw : wantS ops s o = some true := by exact rfl) (ho : o.op = .move x := by exact rfl) (hx : ev s x = some v := by exact rfl) (hd : o.dst = some d := by exact rfl) (hN : Nat.blt d X.N = true := by exact rfl) : Tr X s h (Ls P ops K (o :: os)) := lm hw ho hx hd hN hh
theorem lS {x : Operand} (hh : Tr X ((d, v) :: s) h (Ls P ops K os)) (hw : wantS ops s o = some true := by exact rfl) (ho : o.op = .assign x := by exact rfl) (hx : ev s x = some v := by exact rfl) (hd : o.dst = some d := by exact rfl) (hN : Nat.blt d X.N = true := by exact rfl) : Tr X s h (Ls P ops K (o :: os)) := la hw ho hx hd hN hh
theorem lO (hp : Pr P s h o v) (hh : Tr X ((d, v) :: s) h (Ls P ops K os)) (hw : wantS ops s o = some true := by exact rfl) (hd : o.dst = some d := by exact rfl) (hN : Nat.blt d X.N = true := by exact rfl) : Tr X s h (Ls P ops K (o :: os)) := lo hw hp hd hN hh
theorem lQ (hp : Ld P s h o v) (hh : Tr X ((d, v) :: s) h (Ls P ops K os)) (hw : wantS ops s o = some true := by exact rfl) (hd : o.dst = some d := by exact rfl) (hN : Nat.blt d X.N = true := by exact rfl) : Tr X s h (Ls P ops K (o :: os)) := lq hw hp hd hN hh
theorem lT {id : Nat} {y : Code} (hh : Tr X s h (Ls P os.toArray (Wp F n P ⟨nrm, ret, ex⟩ y) os)) (hF : Wid F := by first | exact wid_wide | assumption) (hd : noDefer os = true := by exact rfl) : Tr X s h (Wp F n P ⟨nrm, ret, ex⟩ (.seq (.region id os.toArray false) y)) := Tsr hF hd hh
theorem lN {id : Nat} {y : Code} (hh : Tr X s h (Ls P os.toArray (Wp F n P ⟨nrm, ret, ex⟩ y) os)) (hF : Wid F := by first | exact wid_wide | assumption) (hd : noDefer os = true := by exact rfl) : Tr X s h (Ls P ops (Wp F n P ⟨nrm, ret, ex⟩ (.seq (.region id os.toArray false) y)) []) := L_nil (Tsr hF hd hh)
theorem lE {J : Jd} (s' : List (Nat × Value)) (h' : Tr X s' h J) (hs : Sub s s' := by repeat (first | exact sn | refine sc rfl ?_)) : Tr X s h J := T_re s' hs h'
theorem lH {J : Jd} (is : List Nat) (h' : List HA) (hh : Tr X s h' J) (hp : Pick h is h' := by exact ⟨by decide, rfl⟩) : Tr X s h J := T_he is h' hp hh
theorem lR {id : Nat} (hh : Tr X s h (Ls P os.toArray nrm os)) (hF : Wid F := by first | exact wid_wide | assumption) (hd : noDefer os = true := by exact rfl) : Tr X s h (Wp F n P ⟨nrm, ret, ex⟩ (.region id os.toArray false)) := T_reg hF hd hh
theorem op_cn {T : Type} {q : T → Prop} {res : T → Value} {hs : T → List HA} {f : FuncId} {c : Operand} {xs : List Operand} {ts : Array TypeId} {vs : List Value} (hcon : ∀ w, HOK h w → Calls P f vs.toArray w (Ret [] w q res hs)) (hf : Go.Proofs.Enters P f)
    (ho : o.op = .call { callee := .value c, args := xs.toArray, argTypes := ts }) (hc : ev s c = some (.func (.func f) #[] #[])) (hx : xs.map (ev s) = vs.map some) (hd : o.dst = some d) (hN : Nat.blt d X.N = true) (hh : ∀ t, q t → Tr X ((d, res t) :: s) (hs t ++ h) K) : Tr X s h (Op P o K K0) :=
  op_call0 (cap := []) (vs := vs) (by simpa using hcon) hf ho hc hx hd hN hh
theorem op_c1 {T : Type} {q : T → Prop} {res : T → Value} {hs : T → List HA} {f : FuncId} {c : Operand} {xs : List Operand} {ts : Array TypeId} {vs : List Value} {x : HA} (i : Nat) (hi : h[i]? = some x) (hcon : ∀ w, HOK h w → Calls P f vs.toArray w (Ret x.ids w q res hs)) (hf : Go.Proofs.Enters P f)
    (ho : o.op = .call { callee := .value c, args := xs.toArray, argTypes := ts }) (hc : ev s c = some (.func (.func f) #[] #[])) (hx : xs.map (ev s) = vs.map some) (hd : o.dst = some d) (hN : Nat.blt d X.N = true) (hh : ∀ t, q t → Tr X ((d, res t) :: s) (hs t ++ h.eraseIdx i) K) : Tr X s h (Op P o K K0) :=
  op_call1 (cap := []) (vs := vs) i hi (by simpa using hcon) hf ho hc hx hd hN hh
theorem fwz {ty : TypeId} {n : Nat} {vs : List Value} (h : (P.info? ty).map (·.size) = some n) (hl : vs.length = n) : (P.info? ty).map (·.size) = some vs.length := by rw [h, hl]
theorem stl {α : Type} {m : Nat} {xs : List α} {f : α → Value} {v : Value} (h : m < xs.length) : m + [v].length ≤ (xs.map f).length := by simp; omega
theorem op_sto {ty e : TypeId} {x y : Operand} {g n : Nat} {cs vs : List Value} (i : Nat) (hi : h[i]? = some (.blk g e cs)) (hv : v.cells.toList = vs) (hz : (P.info? ty).map (·.size) = some n) (h1 : ∀ u ∈ vs, u.oneCell' = true) (hc : cs.length = n) (hl : vs.length = n)
    (ho : o.op = .store ty x y) (hx : ev s x = some (.pointer (some ⟨g, 0, none⟩))) (hy : ev s y = some v) (hd : o.dst = none) (hh : Tr X s (.blk g e vs :: h.eraseIdx i) K) : Tr X s h (Op P o K K0) :=
  op_store i hi hv (fwz hz hl) h1 oM (splice_all oM) ho hx hy hd hh
end
section
variable {P : Program} {s : List (Nat × Value)} {h : List HA} {o : Oper}
end
end Go.Proofs.YtlplpmkdebemnaaGreat.Fw
namespace Go.Proofs.YtlplpmkdebemnaaGreat.Fw
open Go.RowKit Bv
section
variable {P : Program} {s : List (Nat × Value)} {h : List HA} {o : Oper} {v : Value}
theorem pr_extern {f : FuncId} {c : Operand} {xs : List Operand} {ts : Array TypeId} {vs : List Value} (hv : ∀ w, (callFunc f vs.toArray).run P w = .ok (.value v) w)
    (ho : o.op = .call { callee := .value c, args := xs.toArray, argTypes := ts }) (hc : ev s c = some (.func (.func f) #[] #[])) (hx : xs.map (ev s) = vs.map some) : Pr P s h o v := fun e he w hw w' => by
  have key : ∀ (l : List Operand) (r : List Value), l.map (ev s) = r.map some → l.map e = r := by
    intro l
    induction l with
    | nil => intro r hr; cases r with | nil => rfl | cons _ _ => simp at hr
    | cons a l ih => intro r hr; cases r with
      | nil => simp at hr
      | cons b r => simp only [List.map_cons, List.cons.injEq] at hr ⊢; exact ⟨he _ _ hr.1, ih r hr.2⟩
  unfold execOp; rw [ho]
  simp [resolve, he _ _ hc, Deferred.ofValue, invoke, key xs vs hx, hv w']
theorem res3 {fn : Func} {t u q : Nat} {v v' v'' : Value} (hr : fn.results = #[.tmp t, .tmp u, .tmp q]) (hv : s.lookup t = some v) (hv' : s.lookup u = some v') (hv'' : s.lookup q = some v'') : ResV P fn s h (.tuple #[v, v', v'']) := fun tmps hs w hw => by
  simp [results, hr, go_sem, Array.getD_eq_getD_getElem?, hs t v hv, hs u v' hv', hs q v'' hv'']
end
theorem add64_ext {P : Program} {f : FuncId} {fn : Func} (hf : P.funcs[f]? = some fn) (h1 : (fn.name == "runtime.NumGoroutine") = false) (h2 : fn.body.isNone = true) (h3 : Extern.findNext fn = none) (h4 : Extern.find fn = some add64Entry) (x y c : BitVec 64) (hc : c.toNat ≤ 1) :
    ∃ s d : BitVec 64, s.toNat + 18446744073709551616 * d.toNat = x.toNat + y.toNat + c.toNat ∧ d.toNat ≤ 1 ∧ ∀ w, (callFunc f [b64 x, b64 y, b64 c].toArray).run P w = .ok (.value (.tuple [b64 s, b64 d].toArray)) w := by
  have hx := x.isLt
  have hy := y.isLt
  refine ⟨BitVec.ofNat 64 (x.toNat + y.toNat + c.toNat), BitVec.ofNat 64 ((x.toNat + y.toNat + c.toNat) / 18446744073709551616), ?_, ?_, fun w => ?_⟩
  · rw [BitVec.toNat_ofNat, BitVec.toNat_ofNat]; omega
  · rw [BitVec.toNat_ofNat]; omega
  · have h := run_callFunc_extern hf h1 h2 h3 h4 [b64 x, b64 y, b64 c].toArray w
    rw [h]
    have := run_add64 (P := P) (x.toNat : Int) (y.toNat : Int) (c.toNat : Int) oM oM oM oM w
    show ((add64Entry #[.int .u64 (x.toNat : Int), .int .u64 (y.toNat : Int), .int .u64 (c.toNat : Int)]).run P w).andThen _ = _
    have e1 : ((x.toNat : Int) + (y.toNat : Int) + (c.toNat : Int)) % 18446744073709551616 = n64 (BitVec.ofNat 64 (x.toNat + y.toNat + c.toNat)) := by
      unfold n64; rw [BitVec.toNat_ofNat]; omega
    have e2 : ((x.toNat : Int) + (y.toNat : Int) + (c.toNat : Int)) / 18446744073709551616 = n64 (BitVec.ofNat 64 ((x.toNat + y.toNat + c.toNat) / 18446744073709551616)) := by
      unfold n64; rw [BitVec.toNat_ofNat]; omega
    rw [this, e1, e2]
    rfl
end Go.Proofs.YtlplpmkdebemnaaGreat.Fw
namespace Go.Proofs.YtlplpmkdebemnaaGreat.Fw
open Go.RowKit Bv
end Go.Proofs.YtlplpmkdebemnaaGreat.Fw
namespace Go.Proofs.YtlplpmkdebemnaaGreat.Fw
open Go.RowKit Bv
theorem res4 {P : Program} {s : List (Nat × Value)} {h : List HA} {fn : Func} {t u q r : Nat} {v v' v'' v3 : Value} (hr : fn.results = #[.tmp t, .tmp u, .tmp q, .tmp r]) (hv : s.lookup t = some v) (hv' : s.lookup u = some v') (hv'' : s.lookup q = some v'') (hv3 : s.lookup r = some v3) : ResV P fn s h (.tuple #[v, v', v'', v3]) := fun tmps hs w hw => by
  simp [results, hr, go_sem, Array.getD_eq_getD_getElem?, hs t v hv, hs u v' hv', hs q v'' hv'', hs r v3 hv3]
end Go.Proofs.YtlplpmkdebemnaaGreat.Fw
namespace Go.Proofs.YtlplpmkdebemnaaGreat.Fw
open Go.RowKit Bv
variable {P : Program} {X : Cx} {s : List (Nat × Value)} {h : List HA} {o : Oper} {K K0 J : Jd}
end Go.Proofs.YtlplpmkdebemnaaGreat.Fw
namespace Go.Proofs.YtlplpmkdebemnaaGreat.Fw
open Go.RowKit Bv
section
variable {P : Program} {X : Cx} {s : List (Nat × Value)} {h : List HA} {o : Oper} {K K0 J : Jd}
theorem pr_fa {x : Operand} {t : TypeId} {fs : Array Field} {f : Field} {i g m m' z : Nat} (hm : m + f.offset = m') (ht : P.underlying t = some (.struct fs)) (hf : fs[i]? = some f) (hz : (P.info? f.type).map (·.size) = some (z + 1)) (ho : o.op = .fieldAddr t x i) (hx : ev s x = some (.pointer (some ⟨g, m, none⟩))) :
    Pr P s h o (.pointer (some ⟨g, m', none⟩)) := fun e he w hw w' => by
  subst hm
  unfold execOp; rw [ho]
  simp [he _ _ hx, Instr.fieldAt, Instr.sureAddr, run_underlying ht, hf, fieldPlace, run_sizeOf hz, Addr.add_lit]
theorem pr_eqs {bo : BinOp} {ty ty2 : TypeId} {x y : Operand} {xs ys : List Value} {c r : Bool} (hr : ∀ d w, (Op.equalIn (d + 3) ty (.agg xs.toArray) (.agg ys.toArray)).run P w = .ok c w) (hg : Program.eqGuardType P (Program.depth P) ty = false) (hb : (match bo with | .eql => c | .neq => !c | _ => r) = r) (hbo : (bo == .eql || bo == .neq) = true)
    (ho : o.op = .binOp bo ty x y ty2) (hx : ev s x = some (.agg xs.toArray)) (hy : ev s y = some (.agg ys.toArray)) : Pr P s h o (.bool r) := fun e he w hw w' => by
  unfold execOp
  simp only [ho, he _ _ hx, he _ _ hy, Sem.run_bind, run_eqGuard_agg w' _ _ _ _ _ _ hg, Result.andThen_ok]
  have h1 := hr 9997 w'
  cases bo <;> first
    | (cases hbo; done)
    | (simp only at hb; subst hb; rw [run_eql_struct, h1]; rfl)
    | (simp only at hb; subst hb; rw [run_neq_struct, h1]; rfl)
section
variable {w : World} {d : Nat} {t : TypeId} {xs ys : List Value}
theorem eqs {fs : Array Field} {r : Bool} (ht : P.underlying t = some (.struct fs)) (hp : P.stoodInHeld t = false) (h : (Op.eqFields d xs.toArray ys.toArray fs.toList).run P w = .ok r w) : (Op.equalIn (d + 1) t (.agg xs.toArray) (.agg ys.toArray)).run P w = .ok r w := by
  have e : P.fieldsOf t = fs := by unfold Program.fieldsOf; rw [ht]
  rw [run_equalIn_struct w d t _ _ (by rw [e]; exact ht) hp, e]; exact h
theorem eqf_nil : (Op.eqFields d xs.toArray ys.toArray []).run P w = .ok true w := by simp [Op.eqFields]
theorem eqf {f : Field} {fs : List Field} {a b : Value} {c r : Bool} (hn : (f.name != "_") = true) (ha : (part f.type xs.toArray f.offset).run P w = .ok a w) (hb : (part f.type ys.toArray f.offset).run P w = .ok b w) (he : (Op.equalIn d f.type a b).run P w = .ok c w) (hr : (Op.eqFields d xs.toArray ys.toArray fs).run P w = .ok r w) :
    (Op.eqFields d xs.toArray ys.toArray (f :: fs)).run P w = .ok (c && r) w := by
  unfold Op.eqFields
  rw [if_pos (by simpa using hn)]
  simp only [Sem.run_bind, ha, hb, he, Result.andThen_ok]
  cases c <;> simp [hr]
theorem eqt {f : Field} {fs : List Field} {a b : Value} {r : Bool} (hn : (f.name != "_") = true) (ha : (part f.type xs.toArray f.offset).run P w = .ok a w) (hb : (part f.type ys.toArray f.offset).run P w = .ok b w) (he : (Op.equalIn d f.type a b).run P w = .ok true w) (hr : (Op.eqFields d xs.toArray ys.toArray fs).run P w = .ok r w) :
    (Op.eqFields d xs.toArray ys.toArray (f :: fs)).run P w = .ok r w := eqf hn ha hb he hr
theorem part1 {td : TypeDesc} {v : Value} {off : Nat} (ht : P.underlying t = some td) (hn : isAggT td = false) (hx : xs[off]? = some v) : (part t xs.toArray off).run P w = .ok v w := by
  unfold part isAgg
  simp only [Sem.run_bind, run_underlying ht, Result.andThen_ok]
  cases td <;> simp_all [isAggT]
theorem eqv_i {k k' : IntKind} {a b : Int} (ht : P.underlying t = some (.int k')) : (Op.equalIn (d + 1) t (.int k a) (.int k b)).run P w = .ok (a == b) w := run_equalIn_int w d t k k' a b ht
theorem eqv_b {a b : Bool} (ht : P.underlying t = some .bool) : (Op.equalIn (d + 1) t (.bool a) (.bool b)).run P w = .ok (a == b) w := run_equalIn_bool w d t a b ht
theorem eqv_si {k k' : IntKind} {a : Int} (ht : P.underlying t = some (.int k')) : (Op.equalIn (d + 1) t (.int k a) (.int k a)).run P w = .ok true w := by
  rw [run_equalIn_int w d t k k' a a ht]; simp
theorem eqv_sb {a : Bool} (ht : P.underlying t = some .bool) : (Op.equalIn (d + 1) t (.bool a) (.bool a)).run P w = .ok true w := by
  rw [run_equalIn_bool w d t a a ht]; simp
end
theorem resct {fn : Func} {p u : Nat} {ty : TypeId} {g : Nat} {e' : TypeId} {cs : List Value} {td : TypeDesc} {v : Value} (i : Nat) (hi : h[i]? = some (.blk g e' cs)) (hr : fn.results = #[.cell p ty, .tmp u]) (hp : s.lookup p = some (.pointer (some ⟨g, 0, none⟩))) (ht : P.underlying ty = some td) (hn : isAggT td = true) (hz : (P.info? ty).map (·.size) = some cs.length) (hv : s.lookup u = some v) :
    ResV P fn s h (.tuple #[.agg cs.toArray, v]) := fun tmps hs w hw => by
  have hb : w.heap[g]? = some (.cells cs.toArray e' (0, 0)) := hw _ (List.mem_of_getElem? hi)
  have h1 : tmps[p]?.getD undef = .pointer (some ⟨g, 0, none⟩) := by simp [hs p _ hp]
  have h2 : tmps[u]?.getD undef = v := by simp [hs u _ hv]
  have h3 := run_loadVar_row (P := P) w g e' ty cs.toArray (0, 0) td hb ht (by cases td <;> first | (cases hn; done) | rfl) (by simpa using hz)
  simp [results, hr, h1, h2, asAddr, h3]
end
end Go.Proofs.YtlplpmkdebemnaaGreat.Fw
namespace Go.Proofs.YtlplpmkdebemnaaGreat.Fw
open Go.RowKit Bv
structure Rc where
  d : Bool
  k : BitVec 64
  v : BitVec 64
  s : BitVec 64
deriving DecidableEq
def Rc.cs (r : Rc) : List Value := [.bool r.d, .int .i64 (i64 r.k), .int .i64 (i64 r.v), .int .i64 (i64 r.s)]
def rc0 : Rc := ⟨false, 0#64, 0#64, 0#64⟩
def rcs : List Rc → List Value
  | [] => []
  | r :: l => r.cs ++ rcs l
def rat (xs : List Rc) (j : Nat) : Rc := xs.getD j rc0
theorem rcs_app (xs ys : List Rc) : rcs (xs ++ ys) = rcs xs ++ rcs ys := by
  induction xs with
  | nil => rfl
  | cons x xs ih => rw [List.cons_append, rcs, rcs, ih, List.append_assoc]
theorem rcs_len (xs : List Rc) : (rcs xs).length = xs.length * 4 := by
  induction xs with
  | nil => rfl
  | cons x xs ih => rw [rcs, List.length_append, ih, List.length_cons]; show 4 + _ = _; omega
theorem rcs_drop (xs : List Rc) : ∀ j, (rcs xs).drop (j * 4) = rcs (xs.drop j) := by
  induction xs with
  | nil => intro j; simp [rcs]
  | cons x xs ih => intro j; cases j with
    | zero => simp
    | succ j =>
      rw [List.drop_succ_cons, ← ih j, rcs, show (j + 1) * 4 = x.cs.length + j * 4 from by show _ = 4 + _; omega, ← List.drop_drop, List.drop_left]
theorem rcs_take (xs : List Rc) : ∀ j, (rcs xs).take (j * 4) = rcs (xs.take j) := by
  induction xs with
  | nil => intro j; simp [rcs]
  | cons x xs ih => intro j; cases j with
    | zero => simp [rcs]
    | succ j =>
      rw [List.take_succ_cons, rcs, rcs, ← ih j, show (j + 1) * 4 = x.cs.length + j * 4 from by show _ = 4 + _; omega, List.take_length_add_append]
theorem rcs_at (xs : List Rc) (j : Nat) (h : j < xs.length) : ((rcs xs).drop (j * 4)).take 4 = (rat xs j).cs := by
  rw [rcs_drop, List.drop_eq_getElem_cons h, rcs, rat, List.getD_eq_getElem?_getD, List.getElem?_eq_getElem h]
  rfl
theorem zc_i64u (x : BitVec 64) : IntKind.u64.wrap (i64 x) = n64 x := i64_u64 x
theorem zc_u64i (x : BitVec 64) : IntKind.i64.wrap (n64 x) = i64 x := by
  unfold n64 i64
  have h1 := x.isLt
  rw [IntKind.wrap_i64, BitVec.toInt_eq_toNat_cond]
  split <;> omega
section
variable {P : Program} {X : Cx} {s : List (Nat × Value)} {h : List HA} {o : Oper} {K K0 J : Jd}
theorem ld_rc {A : Option Addr} {n c j : Nat} {xs : List Rc} {x : Operand} {ty : TypeId} {td : TypeDesc} (hs : Src h A 4 n c (rcs xs)) (hj : j < n) (ht : P.underlying ty = some td) (hn : isAggT td = true) (hz : (P.info? ty).map (·.size) = some 4) (ho : o.op = .load ty x) (hx : ev s x = some (.pointer (some ((adr A).add (j * 4))))) :
    Ld P s h o (.agg [.bool (rat xs j).d, .int .i64 (i64 (rat xs j).k), .int .i64 (i64 (rat xs j).v), .int .i64 (i64 (rat xs j).s)].toArray) := fun e he w hw => by
  have hr := (hs w hw).1
  have hl := hr.len
  rw [rcs_len] at hl
  cases A with
  | none => have h1 := hr.isn rfl; have h2 := hr.le; omega
  | some ad =>
    show (execOp e o).run P w = _
    unfold execOp; rw [ho]
    simp only [he _ _ hx, Instr.loadAt, Instr.sureAddr, Sem.run_bind, Sem.run_pure, Result.andThen_ok]
    rw [run_loadAgg (ds := (rat xs j).cs) (fun i v hi => ?_) ht hn (by rw [hz]; rfl)]
    · rfl
    · rw [← rcs_at xs j oM, List.getElem?_take] at hi
      split at hi
      · rw [List.getElem?_drop] at hi
        have := hr.cells ad rfl _ _ hi
        rw [← this]
        show w.cell? ((ad.add (j * 4)).add i) = _
        congr 1
        obtain ⟨b, q, z⟩ := ad
        by_cases h1 : j * 4 = 0 <;> by_cases h2 : i = 0 <;> simp [Addr.add, h1, h2, Nat.add_assoc] <;> omega
      · cases hi
end
end Go.Proofs.YtlplpmkdebemnaaGreat.Fw
namespace Go.Proofs.YtlplpmkdebemnaaGreat.Fw
open Go.RowKit Bv Go.ChangeShapes
section
variable {H : Type} {enc : TypeId × Value → H} {P : Program} {w : World} {base : Nat} {held : Bool} {t e : TypeId}
theorem cells4 {a : Addr} {cs : List Value} (h : w.cells? base a 4 = some cs) : ∃ c0 c1 c2 c3, cs = [c0, c1, c2, c3] ∧ w.cell? (a.add 0) = some c0 ∧ w.cell? (a.add 1) = some c1 ∧ w.cell? (a.add 2) = some c2 ∧ w.cell? (a.add 3) = some c3 := by
  unfold World.cells? at h
  split at h
  · rw [show List.range 4 = [0, 1, 2, 3] from rfl] at h
    simp only [List.mapM_cons, List.mapM_nil, Option.pure_def, Option.bind_eq_bind, Option.bind_eq_some_iff, Option.some.injEq] at h
    obtain ⟨c0, h0, l1, ⟨c1, h1, l2, ⟨c2, h2, l3, ⟨c3, h3, l4, rfl, rfl⟩, rfl⟩, rfl⟩, rfl⟩ := h
    exact ⟨c0, c1, c2, c3, rfl, h0, h1, h2, h3⟩
  · cases h
theorem rec_of {fs : Array Field} {f0 f1 f2 f3 : Field} (he : P.underlying e = some (.struct fs)) (h0 : fs[0]? = some f0) (h1 : fs[1]? = some f1) (h2 : fs[2]? = some f2) (h3 : fs[3]? = some f3) (o0 : f0.offset = 0) (o1 : f1.offset = 1) (o2 : f2.offset = 2) (o3 : f3.offset = 3)
    (t0 : P.underlying f0.type = some .bool) (t1 : P.underlying f1.type = some (.int .i64)) (t2 : P.underlying f2.type = some (.int .i64)) (t3 : P.underlying f3.type = some (.int .i64)) (c0 : P.cellsOf f0.type = 1) (c1 : P.cellsOf f1.type = 1) (c2 : P.cellsOf f2.type = 1) (c3 : P.cellsOf f3.type = 1)
    (n : Nat) (a b c d : Value) (y : DataW H × List MemPlace) (hf : DataW.trod enc P w base (fun _ => true) held n e [a, b, c, d] = some y) : ∃ r : Rc, [a, b, c, d] = r.cs := by
  obtain ⟨xs, m, -, -, hl, hxl, hfs⟩ := DataW.trod_struct he hf
  have hs : ∀ (i : Nat) (f : Field), fs[i]? = some f → ∃ n y, DataW.trod enc P w base (fun _ => true) held n f.type (([a, b, c, d].drop f.offset).take (P.cellsOf f.type)) = some y := by
    intro i f hi
    have q1 := hfs i f hi
    have q2 : i < xs.length := by rw [hxl]; exact (Array.getElem?_eq_some_iff.1 hi).1
    rw [List.getElem?_eq_getElem q2] at q1
    exact ⟨m, _, q1⟩
  obtain ⟨p, rfl⟩ := field_bool (c := a) hs 0 h0 t0 c0 (by rw [o0]; rfl)
  obtain ⟨z1, rfl, w1⟩ := field_int (c := b) hs 1 h1 t1 c1 (by rw [o1]; rfl)
  obtain ⟨z2, rfl, w2⟩ := field_int (c := c) hs 2 h2 t2 c2 (by rw [o2]; rfl)
  obtain ⟨z3, rfl, w3⟩ := field_int (c := d) hs 3 h3 t3 c3 (by rw [o3]; rfl)
  obtain ⟨x1, rfl⟩ := exi64 w1
  obtain ⟨x2, rfl⟩ := exi64 w2
  obtain ⟨x3, rfl⟩ := exi64 w3
  exact ⟨⟨p, x1, x2, x3⟩, rfl⟩
theorem rcs_get (xs : List Rc) (j : Nat) (v : Value) (h : (rcs xs)[j]? = some v) : ∃ r, xs[j / 4]? = some r ∧ r.cs[j % 4]? = some v := by
  have hj : j < xs.length * 4 := by have := (List.getElem?_eq_some_iff.1 h).1; rwa [rcs_len] at this
  have hq : j / 4 < xs.length := by omega
  refine ⟨xs[j / 4], List.getElem?_eq_getElem hq, ?_⟩
  have := rcs_at xs (j / 4) hq
  rw [show rat xs (j / 4) = xs[j / 4] by unfold rat; rw [List.getD_eq_getElem?_getD, List.getElem?_eq_getElem hq]; rfl] at this
  rw [← this, List.getElem?_take, if_pos oM, List.getElem?_drop, show j / 4 * 4 + j % 4 = j by omega, h]
theorem open_recs {A : Option Addr} {len cap : Nat} (ht : P.underlying t = some (.slice e)) (hc : P.cellsOf e = 4) (hel : ∀ (n : Nat) (a b c d : Value) (y : DataW H × List MemPlace), DataW.trod enc P w base (fun _ => true) held n e [a, b, c, d] = some y → ∃ r : Rc, [a, b, c, d] = r.cs) {fuel : Nat} {x : DataW H × List MemPlace}
    (hf : DataW.trod enc P w base (fun _ => true) held fuel t (Value.slice A len cap).cells.toList = some x) : ∃ xs : List Rc, xs.length = len ∧ HA.ok w (.rd A 4 len cap (rcs xs)) := by
  rcases DataW.trod_slice ht hf with ⟨hcs, _⟩ | ⟨a, l, c, elems, rest, n, -, hcs, -, hb, hl, hm, hlen, hel2, hsp, -⟩
  · simp [Value.cells] at hcs
    obtain ⟨rfl, rfl, rfl⟩ := hcs
    exact ⟨[], rfl, ⟨rfl, Nat.le_refl _, by omega, fun _ => rfl, fun ad h => by cases h⟩, fun ad h => by cases h⟩
  · simp [Value.cells] at hcs
    obtain ⟨rfl, rfl, rfl⟩ := hcs
    have hm' : cap ≤ 9223372036854775807 := hm
    have one : ∀ (i : Nat) (y : DataW H × List MemPlace), (w.cells? base (a.add (i * P.cellsOf e)) (P.cellsOf e)).bind (DataW.trod enc P w base (fun _ => true) held n e) = some y → ∃ r : Rc, ∀ q v, r.cs[q]? = some v → w.cell? (a.add (i * 4 + q)) = some v := by
      intro i y hy
      rw [hc] at hy
      obtain ⟨cs, h1, h2⟩ := Option.bind_eq_some_iff.1 hy
      obtain ⟨c0, c1, c2, c3, rfl, g0, g1, g2, g3⟩ := cells4 h1
      obtain ⟨r, hr⟩ := hel n _ _ _ _ _ h2
      have ad : ∀ q, a.add (i * 4 + q) = (a.add (i * 4)).add q := fun q => by
        obtain ⟨b, o, z⟩ := a
        by_cases k1 : i * 4 = 0 <;> by_cases k2 : q = 0 <;> simp [Addr.add, k1, k2, Nat.add_assoc] <;> omega
      refine ⟨r, fun q v hv => ?_⟩
      rw [← hr] at hv
      rw [ad q]
      have hq : q < 4 := by have := (List.getElem?_eq_some_iff.1 hv).1; simpa using this
      rcases (by omega : q = 0 ∨ q = 1 ∨ q = 2 ∨ q = 3) with rfl | rfl | rfl | rfl <;> simp at hv <;> subst hv <;> assumption
    have hall : ∀ i, i < len → ∃ r : Rc, ∀ q v, r.cs[q]? = some v → w.cell? (a.add (i * 4 + q)) = some v := by
      intro i hi
      have h1 := hel2 i hi
      rw [List.getElem?_eq_getElem oM] at h1
      exact one i _ h1
    have h0 : 0 < cap → a.block < w.heap.size := by
      intro hpos
      by_cases hl0 : 0 < len
      · obtain ⟨r, hr⟩ := hall 0 hl0
        have := World.block_lt_of_cell? w _ (hr 0 _ rfl)
        rwa [add_block] at this
      · obtain ⟨hr1, hr2⟩ := hsp rfl
        have h1 := hr2 0 oM
        rw [List.getElem?_eq_getElem oM] at h1
        obtain ⟨r, hr⟩ := one (len + 0) _ h1
        have := World.block_lt_of_cell? w _ (hr 0 _ rfl)
        rwa [add_block] at this
    obtain ⟨L, hLl, hL⟩ := list_of len hall
    refine ⟨L, hLl, ⟨by rw [rcs_len, hLl], hl, hm', (fun h => by cases h), fun ad e j v hj => ?_⟩, fun ad e h => ?_⟩
    · cases e
      obtain ⟨r, hr1, hr2⟩ := rcs_get L j v hj
      have := hL _ _ hr1 _ _ hr2
      rwa [show j / 4 * 4 + j % 4 = j by omega] at this
    · cases e; exact h0 h
end
end Go.Proofs.YtlplpmkdebemnaaGreat.Fw
namespace Go.Proofs.YtlplpmkdebemnaaGreat
open Go.RowKit Bv
attribute [local go_sem] cv8_64 or64 cv64_8
def low (xs : List (BitVec 8)) : Nat → BitVec 64
  | 0 => 0#64
  | k + 1 => low xs k ||| (ath xs k).setWidth 64 <<< (8 * k)
def lowb (v : BitVec 64) : Nat → List (BitVec 8)
  | 0 => []
  | k + 1 => lowb v k ++ [(v >>> (8 * k)).setWidth 8]
theorem lowb_len (v : BitVec 64) : ∀ k, (lowb v k).length = k
  | 0 => rfl
  | k + 1 => by simp [lowb, lowb_len v k]
end Go.Proofs.YtlplpmkdebemnaaGreat
namespace Go.Proofs.YtlplpmkdebemnaaGreat
set_option maxRecDepth 100000
open Go.RowKit Bv Fw
def highb (v : BitVec 64) (n : Nat) : Nat → List (BitVec 8)
  | 0 => []
  | k + 1 => highb v n k ++ [(v >>> (8 * (n - 1 - k))).setWidth 8]
theorem highb_len (v : BitVec 64) (n : Nat) : ∀ k, (highb v n k).length = k
  | 0 => rfl
  | k + 1 => by rw [highb, List.length_append, highb_len v n k]; rfl
def high (xs : List (BitVec 8)) : Nat → BitVec 64
  | 0 => 0#64
  | k + 1 => high xs k <<< 8 ||| (ath xs k).setWidth 64
set_option maxHeartbeats 4000000 in
theorem putLow_f (zs : List (BitVec 8)) (v : BitVec 64) (k : Nat) (A : Option Addr) (n : Nat) (c : Nat) (w : World) (hO : HA.ok w (.row (.slice A n c) 5 1 n (zs.map b8))) (hk : k ≤ 8) (hn : n + 8 ≤ 100000000000000) : Calls Tryz.prog 51 [(.slice A n c), (b64 v), (.int .i64 ((k : Nat) : Int))].toArray w (Ret (T := Option Addr × Nat) (HA.ids (.row (.slice A n c) 5 1 n (zs.map b8))) w (fun ⟨B, d⟩ => True) (fun ⟨B, d⟩ => (.slice B (n + k) d)) (fun ⟨B, d⟩ => [.row (.slice B (n + k) d) 5 1 (n + k) ((zs ++ lowb v k).map b8)])) := by
 refine enter (c := _) Tryz.func51 rfl (HA.ids (.row (.slice A n c) 5 1 n (zs.map b8))) _ [.row (.slice A n c) 5 1 n (zs.map b8)] (by rw [Tryz.ntmps51]; rfl) (own_one hO rfl rfl) ?_
 rw [Tryz.ntmps51]
 refine lE [(0, (.slice A n c)), (1, (b64 v)), (2, (.int .i64 ((k : Nat) : Int)))] ?_
 refine lH [0] [.row (.slice A n c) 5 1 n (zs.map b8)] ?_
 refine lT ?_
 refine lS ?_
 refine L_nil ?_
 refine T_seq ?_
 refine lT ?_
 refine lM ?_
 refine lM ?_
 refine L_nil ?_
 refine T_block ?_
 refine T_slot 0 (.slice A n c) (.slice A (n + 0) c) rfl (by rfl) ?_
 refine T_as 0 _ (.row (.slice A (n + 0) c) 5 1 (n + 0) ((zs ++ lowb v 0).map b8)) rfl (by simp [lowb]) ?_
 refine T_loop (T := Nat × Option Addr × Nat) (fun ⟨j, A1, c1⟩ => j ≤ k) (fun ⟨j, A1, c1⟩ => [(0, (.slice A1 (n + j) c1)), (1, (b64 v)), (8, (.int .i64 ((k : Nat) : Int))), (9, (.int .i64 ((j : Nat) : Int)))]) (fun ⟨j, A1, c1⟩ => [.row (.slice A1 (n + j) c1) 5 1 (n + j) ((zs ++ lowb v j).map b8)]) (fun ⟨j, A1, c1⟩ => k - j) (0, A, c) pN (sc rfl (sc rfl (sc rfl (sc rfl sn)))) [0] ⟨by decide, rfl⟩ ?_
 rintro ⟨j, A1, c1⟩ hp
 have hp : j ≤ k := hp
 refine lE [(0, (.slice A1 (n + j) c1)), (1, (b64 v)), (8, (.int .i64 ((k : Nat) : Int))), (9, (.int .i64 ((j : Nat) : Int)))] ?_
 refine lH [0] [.row (.slice A1 (n + j) c1) 5 1 (n + j) ((zs ++ lowb v j).map b8)] ?_
 refine lT ?_
 refine lO (pr_cmp (bo := .lss) (nc_lt (a := j) (b := k)) rfl rfl rfl rfl) ?_
 refine L_nil ?_
 refine T_seq ?_
 refine T_cond (decide (j < k)) rfl (fun hc_1 => ?_) (fun hc_1 => ?_)
 ·have hc_1 := of_decide_eq_true hc_1
  refine T_skip ?_
  refine T_seq ?_
  refine T_block ?_
  refine lT ?_
  refine lM ?_
  refine lS ?_
  refine L_nil ?_
  refine lR ?_
  refine lM ?_
  refine lM ?_
  refine lM ?_
  refine lO (pr_mul (nm_i64 (a := 8) (b := j) sd) rfl rfl rfl) ?_
  refine lO (pr_shift (sh_shr64 v _ (8 * j)) rfl rfl rfl rfl) ?_
  refine lO (pr_cv (cv64_8 _) Tryz.underlying23 Tryz.underlying5 rfl rfl) ?_
  refine L_op rfl (op_bslice (e := 5) (zs := [(b8 ((v >>> (8 * j)).setWidth 8))]) (qs := [(0, (b8 ((v >>> (8 * j)).setWidth 8)))]) (fun _ => by kernel_rfl) rfl rfl rfl rfl (fun g2 => ?_))
  refine L_op rfl (op_append (z := (b8 (0#8))) (size := 1) (bytes := 1) 1 rfl Tryz.underlying27 kr kr (by decide) (src_full (z := 1) 0 rfl rfl sd sd) (by simp [Value.oneCell']) sd sd rfl rfl rfl rfl rfl (fun A3 C4 => ?_))
  refine T_as 0 _ (.row (.slice A3 (n + j + 1) C4) 5 1 (n + j + 1) ((zs ++ lowb v j ++ [((v >>> (8 * j)).setWidth 8)]).map b8)) rfl (by congr 1; simp; done) ?_
  refine lS ?_
  refine L_nil ?_
  refine lR ?_
  refine lO (pr_add (na_i64 (a := j) (b := 1) sd) rfl rfl rfl) ?_
  refine lM ?_
  refine L_nil ?_
  refine T_slot 0 (.slice A3 (n + j + 1) C4) (.slice A3 (n + (j + 1)) C4) rfl (by rfl) ?_
  refine T_as 0 _ (.row (.slice A3 (n + (j + 1)) C4) 5 1 (n + (j + 1)) ((zs ++ lowb v (j + 1)).map b8)) rfl (by simp [lowb] <;> omega) ?_
  exact T_again (j + 1, A3, C4) pN pN (sc rfl (sc rfl (sc rfl (sc rfl sn)))) [0] ⟨by decide, rfl⟩
 have hc_1 := of_decide_eq_false hc_1
 refine T_exit rfl ?_
 refine lT ?_
 refine lM ?_
 refine lS ?_
 refine L_nil ?_
 refine T_ret ?_
 obtain rfl : k = j := by omega
 exact T_fin (A1, c1) qN (res1 rfl rfl) [0] ⟨by decide, rfl⟩ rfl
set_option maxHeartbeats 4000000 in
theorem putHigh_f (zs : List (BitVec 8)) (v : BitVec 64) (k : Nat) (A : Option Addr) (n : Nat) (c : Nat) (w : World) (hO : HA.ok w (.row (.slice A n c) 5 1 n (zs.map b8))) (hk : k ≤ 8) (hn : n + 8 ≤ 100000000000000) : Calls Tryz.prog 109 [(.slice A n c), (b64 v), (.int .i64 ((k : Nat) : Int))].toArray w (Ret (T := Option Addr × Nat) (HA.ids (.row (.slice A n c) 5 1 n (zs.map b8))) w (fun ⟨B, d⟩ => True) (fun ⟨B, d⟩ => (.slice B (n + k) d)) (fun ⟨B, d⟩ => [.row (.slice B (n + k) d) 5 1 (n + k) ((zs ++ highb v k k).map b8)])) := by
 refine enter (c := _) Tryz.func109 rfl (HA.ids (.row (.slice A n c) 5 1 n (zs.map b8))) _ [.row (.slice A n c) 5 1 n (zs.map b8)] (by rw [Tryz.ntmps109]; rfl) (own_one hO rfl rfl) ?_
 rw [Tryz.ntmps109]
 refine lE [(0, (.slice A n c)), (1, (b64 v)), (2, (.int .i64 ((k : Nat) : Int)))] ?_
 refine lH [0] [.row (.slice A n c) 5 1 n (zs.map b8)] ?_
 refine lT ?_
 refine lS ?_
 refine L_nil ?_
 refine T_seq ?_
 refine lT ?_
 refine lM ?_
 refine lM ?_
 refine L_nil ?_
 refine T_block ?_
 refine T_slot 0 (.slice A n c) (.slice A (n + 0) c) rfl (by rfl) ?_
 refine T_as 0 _ (.row (.slice A (n + 0) c) 5 1 (n + 0) ((zs ++ highb v k 0).map b8)) rfl (by simp [highb]) ?_
 refine T_loop (T := Nat × Option Addr × Nat) (fun ⟨j, A1, c1⟩ => j ≤ k) (fun ⟨j, A1, c1⟩ => [(0, (.slice A1 (n + j) c1)), (1, (b64 v)), (2, (.int .i64 ((k : Nat) : Int))), (8, (.int .i64 ((k : Nat) : Int))), (9, (.int .i64 ((j : Nat) : Int)))]) (fun ⟨j, A1, c1⟩ => [.row (.slice A1 (n + j) c1) 5 1 (n + j) ((zs ++ highb v k j).map b8)]) (fun ⟨j, A1, c1⟩ => k - j) (0, A, c) pN (sc rfl (sc rfl (sc rfl (sc rfl (sc rfl sn))))) [0] ⟨by decide, rfl⟩ ?_
 rintro ⟨j, A1, c1⟩ hp
 have hp : j ≤ k := hp
 refine lE [(0, (.slice A1 (n + j) c1)), (1, (b64 v)), (2, (.int .i64 ((k : Nat) : Int))), (8, (.int .i64 ((k : Nat) : Int))), (9, (.int .i64 ((j : Nat) : Int)))] ?_
 refine lH [0] [.row (.slice A1 (n + j) c1) 5 1 (n + j) ((zs ++ highb v k j).map b8)] ?_
 refine lT ?_
 refine lO (pr_cmp (bo := .lss) (nc_lt (a := j) (b := k)) rfl rfl rfl rfl) ?_
 refine L_nil ?_
 refine T_seq ?_
 refine T_cond (decide (j < k)) rfl (fun hc_1 => ?_) (fun hc_1 => ?_)
 ·have hc_1 := of_decide_eq_true hc_1
  refine T_skip ?_
  refine T_seq ?_
  refine T_block ?_
  refine lT ?_
  refine lM ?_
  refine lS ?_
  refine L_nil ?_
  refine lR ?_
  refine lM ?_
  refine lM ?_
  refine lM ?_
  refine lO (pr_sub (ns_i64 (a := k) (b := 1) sd sd) rfl rfl rfl) ?_
  refine lM ?_
  refine lO (pr_sub (ns_i64 (a := k - 1) (b := j) sd sd) rfl rfl rfl) ?_
  refine lO (pr_mul (nm_i64 (a := 8) (b := k - 1 - j) sd) rfl rfl rfl) ?_
  refine lO (pr_shift (sh_shr64 v _ (8 * (k - 1 - j))) rfl rfl rfl rfl) ?_
  refine lO (pr_cv (cv64_8 _) Tryz.underlying23 Tryz.underlying5 rfl rfl) ?_
  refine L_op rfl (op_bslice (e := 5) (zs := [(b8 ((v >>> (8 * (k - 1 - j))).setWidth 8))]) (qs := [(0, (b8 ((v >>> (8 * (k - 1 - j))).setWidth 8)))]) (fun _ => by kernel_rfl) rfl rfl rfl rfl (fun g2 => ?_))
  refine L_op rfl (op_append (z := (b8 (0#8))) (size := 1) (bytes := 1) 1 rfl Tryz.underlying27 kr kr (by decide) (src_full (z := 1) 0 rfl rfl sd sd) (by simp [Value.oneCell']) sd sd rfl rfl rfl rfl rfl (fun A3 C4 => ?_))
  refine T_as 0 _ (.row (.slice A3 (n + j + 1) C4) 5 1 (n + j + 1) ((zs ++ highb v k j ++ [((v >>> (8 * (k - 1 - j))).setWidth 8)]).map b8)) rfl (by congr 1; simp; done) ?_
  refine lS ?_
  refine L_nil ?_
  refine lR ?_
  refine lO (pr_add (na_i64 (a := j) (b := 1) sd) rfl rfl rfl) ?_
  refine lM ?_
  refine L_nil ?_
  refine T_slot 0 (.slice A3 (n + j + 1) C4) (.slice A3 (n + (j + 1)) C4) rfl (by rfl) ?_
  refine T_as 0 _ (.row (.slice A3 (n + (j + 1)) C4) 5 1 (n + (j + 1)) ((zs ++ highb v k (j + 1)).map b8)) rfl (by simp [highb] <;> omega) ?_
  exact T_again (j + 1, A3, C4) pN pN (sc rfl (sc rfl (sc rfl (sc rfl (sc rfl sn))))) [0] ⟨by decide, rfl⟩
 have hc_1 := of_decide_eq_false hc_1
 refine T_exit rfl ?_
 refine lT ?_
 refine lM ?_
 refine lS ?_
 refine L_nil ?_
 refine T_ret ?_
 obtain rfl : k = j := by omega
 exact T_fin (A1, c1) qN (res1 rfl rfl) [0] ⟨by decide, rfl⟩ rfl
set_option maxHeartbeats 4000000 in
theorem low_f (xs : List (BitVec 8)) (k : Nat) (A : Option Addr) (n : Nat) (c : Nat) (w : World) (hO : HOK [.rd A 1 n c (xs.map b8)] w) (hk : k ≤ n) (hk8 : k ≤ 8) (hx : xs.length = n) : Calls Tryz.prog 68 [(.slice A n c), (.int .i64 ((k : Nat) : Int))].toArray w (Ret (T := Unit) [] w (fun _ => True) (fun _ => (b64 (low xs k))) (fun _ => [])) := by
 refine enter (c := _) Tryz.func68 rfl [] _ [.rd A 1 n c (xs.map b8)] (by rw [Tryz.ntmps68]; rfl) (own_rds hO rfl) ?_
 rw [Tryz.ntmps68]
 refine lE [(0, (.slice A n c)), (1, (.int .i64 ((k : Nat) : Int)))] ?_
 refine lH [0] [.rd A 1 n c (xs.map b8)] ?_
 refine lT ?_
 refine lS ?_
 refine lN ?_
 refine lS ?_
 refine L_nil ?_
 refine T_seq ?_
 refine lT ?_
 refine lM ?_
 refine lM ?_
 refine L_nil ?_
 refine T_block ?_
 refine T_slot 5 (b64 (0#64)) (b64 (low xs 0)) rfl (rfl) ?_
 refine T_loop (T := Nat) (fun j => j ≤ k) (fun j => [(0, (.slice A n c)), (5, (b64 (low xs j))), (7, (.int .i64 ((k : Nat) : Int))), (8, (.int .i64 ((j : Nat) : Int)))]) (fun j => [.rd A 1 n c (xs.map b8)]) (fun j => k - j) 0 pN (sc rfl (sc rfl (sc rfl (sc rfl sn)))) [0] ⟨by decide, rfl⟩ ?_
 rintro j hp
 have hp : j ≤ k := hp
 refine lE [(0, (.slice A n c)), (5, (b64 (low xs j))), (7, (.int .i64 ((k : Nat) : Int))), (8, (.int .i64 ((j : Nat) : Int)))] ?_
 refine lH [0] [.rd A 1 n c (xs.map b8)] ?_
 refine lT ?_
 refine lO (pr_cmp (bo := .lss) (nc_lt (a := j) (b := k)) rfl rfl rfl rfl) ?_
 refine L_nil ?_
 refine T_seq ?_
 refine T_cond (decide (j < k)) rfl (fun hc_1 => ?_) (fun hc_1 => ?_)
 ·have hc_1 := of_decide_eq_true hc_1
  refine T_skip ?_
  refine T_seq ?_
  refine T_block ?_
  refine lT ?_
  refine lM ?_
  refine lS ?_
  refine L_nil ?_
  refine lR ?_
  refine lM ?_
  refine lM ?_
  refine lM ?_
  refine lO (pr_ixs1 (j := j) (src_none (src_rd 0 rfl)) sd Tryz.underlying27 kr rfl rfl rfl) ?_
  refine lQ (ld_src (m := j) (src_rd 0 rfl) (get8 sd) Tryz.underlying5 rfl rfl rfl) ?_
  refine lO (pr_cv (cv8_64 _) Tryz.underlying5 Tryz.underlying23 rfl rfl) ?_
  refine lM ?_
  refine lO (pr_mul (nm_i64 (a := 8) (b := j) sd) rfl rfl rfl) ?_
  refine lO (pr_shift (sh_shl64 ((ath xs j).setWidth 64) _ (8 * j)) rfl rfl rfl rfl) ?_
  refine lO (pr_or (ib_or64 _ _) rfl rfl rfl) ?_
  refine lS ?_
  refine L_nil ?_
  refine lR ?_
  refine lO (pr_add (na_i64 (a := j) (b := 1) sd) rfl rfl rfl) ?_
  refine lM ?_
  refine L_nil ?_
  refine T_slot 5 (b64 ((low xs j) ||| (((ath xs j).setWidth 64) <<< (8 * j)))) (b64 (low xs (j + 1))) rfl (rfl) ?_
  exact T_again (j + 1) pN pN (sc rfl (sc rfl (sc rfl (sc rfl sn)))) [0] ⟨by decide, rfl⟩
 have hc_1 := of_decide_eq_false hc_1
 refine T_exit rfl ?_
 refine lT ?_
 refine lM ?_
 refine lS ?_
 refine L_nil ?_
 refine T_ret ?_
 obtain rfl : k = j := by omega
 exact T_fin () qN (res1 rfl rfl) [] ⟨by decide, rfl⟩ rfl
set_option maxHeartbeats 4000000 in
theorem high_f (xs : List (BitVec 8)) (k : Nat) (A : Option Addr) (n : Nat) (c : Nat) (w : World) (hO : HOK [.rd A 1 n c (xs.map b8)] w) (hk : k ≤ n) (hk8 : k ≤ 8) (hx : xs.length = n) : Calls Tryz.prog 113 [(.slice A n c), (.int .i64 ((k : Nat) : Int))].toArray w (Ret (T := Unit) [] w (fun _ => True) (fun _ => (b64 (high xs k))) (fun _ => [])) := by
 refine enter (c := _) Tryz.func113 rfl [] _ [.rd A 1 n c (xs.map b8)] (by rw [Tryz.ntmps113]; rfl) (own_rds hO rfl) ?_
 rw [Tryz.ntmps113]
 refine lE [(0, (.slice A n c)), (1, (.int .i64 ((k : Nat) : Int)))] ?_
 refine lH [0] [.rd A 1 n c (xs.map b8)] ?_
 refine lT ?_
 refine lS ?_
 refine lN ?_
 refine lS ?_
 refine L_nil ?_
 refine T_seq ?_
 refine lT ?_
 refine lM ?_
 refine lM ?_
 refine L_nil ?_
 refine T_block ?_
 refine T_slot 5 (b64 (0#64)) (b64 (high xs 0)) rfl (rfl) ?_
 refine T_loop (T := Nat) (fun j => j ≤ k) (fun j => [(0, (.slice A n c)), (5, (b64 (high xs j))), (7, (.int .i64 ((k : Nat) : Int))), (8, (.int .i64 ((j : Nat) : Int)))]) (fun j => [.rd A 1 n c (xs.map b8)]) (fun j => k - j) 0 pN (sc rfl (sc rfl (sc rfl (sc rfl sn)))) [0] ⟨by decide, rfl⟩ ?_
 rintro j hp
 have hp : j ≤ k := hp
 refine lE [(0, (.slice A n c)), (5, (b64 (high xs j))), (7, (.int .i64 ((k : Nat) : Int))), (8, (.int .i64 ((j : Nat) : Int)))] ?_
 refine lH [0] [.rd A 1 n c (xs.map b8)] ?_
 refine lT ?_
 refine lO (pr_cmp (bo := .lss) (nc_lt (a := j) (b := k)) rfl rfl rfl rfl) ?_
 refine L_nil ?_
 refine T_seq ?_
 refine T_cond (decide (j < k)) rfl (fun hc_1 => ?_) (fun hc_1 => ?_)
 ·have hc_1 := of_decide_eq_true hc_1
  refine T_skip ?_
  refine T_seq ?_
  refine T_block ?_
  refine lT ?_
  refine lM ?_
  refine lS ?_
  refine L_nil ?_
  refine lR ?_
  refine lM ?_
  refine lO (pr_shift (sh_shl64 (high xs j) _ 8) rfl rfl rfl rfl) ?_
  refine lM ?_
  refine lM ?_
  refine lO (pr_ixs1 (j := j) (src_none (src_rd 0 rfl)) sd Tryz.underlying27 kr rfl rfl rfl) ?_
  refine lQ (ld_src (m := j) (src_rd 0 rfl) (get8 sd) Tryz.underlying5 rfl rfl rfl) ?_
  refine lO (pr_cv (cv8_64 _) Tryz.underlying5 Tryz.underlying23 rfl rfl) ?_
  refine lO (pr_or (ib_or64 _ _) rfl rfl rfl) ?_
  refine lS ?_
  refine L_nil ?_
  refine lR ?_
  refine lO (pr_add (na_i64 (a := j) (b := 1) sd) rfl rfl rfl) ?_
  refine lM ?_
  refine L_nil ?_
  refine T_slot 5 (b64 (((high xs j) <<< 8) ||| ((ath xs j).setWidth 64))) (b64 (high xs (j + 1))) rfl (rfl) ?_
  exact T_again (j + 1) pN pN (sc rfl (sc rfl (sc rfl (sc rfl sn)))) [0] ⟨by decide, rfl⟩
 have hc_1 := of_decide_eq_false hc_1
 refine T_exit rfl ?_
 refine lT ?_
 refine lM ?_
 refine lS ?_
 refine L_nil ?_
 refine T_ret ?_
 obtain rfl : k = j := by omega
 exact T_fin () qN (res1 rfl rfl) [] ⟨by decide, rfl⟩ rfl
end Go.Proofs.YtlplpmkdebemnaaGreat
namespace Go.Proofs.YtlplpmkdebemnaaGreat
set_option maxRecDepth 100000
open Go.RowKit Bv Fw
set_option maxHeartbeats 4000000 in
theorem chunk_seq (b : List (BitVec 8)) (z : Nat) (A : Option Addr) (n : Nat) (c : Nat) (g1 : Nat) (g2 : Nat) (hz : 0 < z) (hz2 : z ≤ 1000000) (hb : b.length = n) (hn : n ≤ 100000000000000) : SeqC (Θ := Option Addr) Tryz.prog 67 [(.pointer (some ⟨g1, 0, none⟩)), (.pointer (some ⟨g2, 0, none⟩))] [.rd (some ⟨g1, 0, none⟩) 1 1 1 [(.slice A n c)], .rd (some ⟨g2, 0, none⟩) 1 1 1 [(.int .i64 ((z : Nat) : Int))], .rd A 1 n c (b.map b8)] ((n + z - 1) / z) (fun k B => [(.slice B (min z (n - z * k)) (min z (n - z * k)))]) (fun k B => [.rd B 1 (min z (n - z * k)) (min z (n - z * k)) ((List.take (min z (n - z * k)) (List.drop (z * k) b)).map b8)]) := by
 have hF : Wid Fence.wide := wid_wide
 refine enter_seq (c := _) Tryz.func67 rfl (by rw [Tryz.ntmps67]; rfl) rfl ?_
 intro l J Jx W O R hsJ hsX hy hend
 rw [Tryz.ntmps67]
 refine lE [(0, (.func (.yield l) #[] #[])), (1, (.pointer (some ⟨g1, 0, none⟩))), (2, (.pointer (some ⟨g2, 0, none⟩)))] ?_
 refine lH [0, 1, 2, 3] [.inv W.heap.size O R (J 0 O R), .rd (some ⟨g1, 0, none⟩) 1 1 1 [(.slice A n c)], .rd (some ⟨g2, 0, none⟩) 1 1 1 [(.int .i64 ((z : Nat) : Int))], .rd A 1 n c (b.map b8)] ?_
 refine lT ?_
 refine lS ?_
 refine L_nil ?_
 refine T_block ?_
 refine T_slot 4 (.int .i64 ((0 : Nat) : Int)) (.int .i64 ((z * 0 : Nat) : Int)) rfl (by rfl) ?_
 refine T_loop (T := Nat × List Nat × List Nat) (fun ⟨k, O, R⟩ => k ≤ (n + z - 1) / z) (fun ⟨k, O, R⟩ => [(0, (.func (.yield l) #[] #[])), (1, (.pointer (some ⟨g1, 0, none⟩))), (2, (.pointer (some ⟨g2, 0, none⟩))), (4, (.int .i64 ((z * k : Nat) : Int)))]) (fun ⟨k, O, R⟩ => [.inv W.heap.size O R (J k O R), .rd (some ⟨g1, 0, none⟩) 1 1 1 [(.slice A n c)], .rd (some ⟨g2, 0, none⟩) 1 1 1 [(.int .i64 ((z : Nat) : Int))], .rd A 1 n c (b.map b8)]) (fun ⟨k, O, R⟩ => (n + z - 1) / z - k) (0, O, R) pN (sc rfl (sc rfl (sc rfl (sc rfl sn)))) [0, 1, 2, 3] ⟨by decide, rfl⟩ ?_
 rintro ⟨k, O, R⟩ hp
 have hp : k ≤ (n + z - 1) / z := hp
 have hmk := chunk_mul z n k hz hp
 have hmk1 : z * (k + 1) = z * k + z := Nat.mul_succ z k
 refine lE [(0, (.func (.yield l) #[] #[])), (1, (.pointer (some ⟨g1, 0, none⟩))), (2, (.pointer (some ⟨g2, 0, none⟩))), (4, (.int .i64 ((z * k : Nat) : Int)))] ?_
 refine lH [0, 1, 2, 3] [.inv W.heap.size O R (J k O R), .rd (some ⟨g1, 0, none⟩) 1 1 1 [(.slice A n c)], .rd (some ⟨g2, 0, none⟩) 1 1 1 [(.int .i64 ((z : Nat) : Int))], .rd A 1 n c (b.map b8)] ?_
 refine T_seq ?_
 refine lT ?_
 refine lM ?_
 refine lQ (ld_rdb (src_rd 1 rfl) rfl Tryz.underlying27 rfl rfl rfl) ?_
 refine lO (pr_len_sl Tryz.underlying27 rfl rfl) ?_
 refine lO (pr_cmp (bo := .lss) (nc_lt (a := z * k) (b := n)) rfl rfl rfl rfl) ?_
 refine L_nil ?_
 refine T_cond (decide (z * k < n)) rfl (fun hc_1 => ?_) (fun hc_1 => ?_)
 ·have hc_1 := of_decide_eq_true hc_1
  refine T_skip ?_
  refine T_seq ?_
  refine T_block ?_
  refine T_seq ?_
  refine T_regD [.inv W.heap.size O R (J k O R), .rd (some ⟨g1, 0, none⟩) 1 1 1 [(.slice A n c)], .rd (some ⟨g2, 0, none⟩) 1 1 1 [(.int .i64 ((z : Nat) : Int))], .rd A 1 n c (b.map b8)] 7 7 #[false, false, false, false, false, false, false] hF kr kr ?_
  refine D_pure (i := 2) [0, 1, 2, 3] rfl kr rfl (pr_move rfl rfl) (.inr rfl) rfl rfl ?_
  refine D_take (i := 0) [0, 1, 2, 3] rfl kr rfl (ld_rdb (src_rd 2 rfl) rfl Tryz.underlying3 rfl rfl rfl) rfl rfl rfl ?_
  refine D_take (i := 1) [0, 1, 2, 3] rfl kr rfl (ld_rdb (src_rd 1 rfl) rfl Tryz.underlying27 rfl rfl rfl) rfl rfl rfl ?_
  refine D_one 3 _ rfl kr rfl (op_slice_rd (l := z * k) (u := n) 3 rfl sd sd Tryz.underlying27 kr rfl rfl ⟨_, rfl⟩ rfl rfl rfl (fun B2 => ?_))
  refine T_as 0 _ (.rd B2 1 (n - (z * k)) (c - (z * k)) ((List.drop (z * k) b).map b8)) rfl (by congr 1; first | rfl | (rw [List.take_of_length_le (by simp; omega)]; simp)) ?_
  refine D_on [1, 2, 3, 4] rfl ?_
  refine D_pure (i := 4) [1, 2, 3, 4] rfl kr rfl (pr_len_sl Tryz.underlying27 rfl rfl) (.inr rfl) rfl rfl ?_
  refine D_pure (i := 5) [1, 2, 3, 4] rfl kr rfl ((pr_as (pr_min rfl rfl rfl) (nmin (k := .i64) (a := z) (b := n - (z * k))))) (.inr rfl) rfl rfl ?_
  refine D_pure (i := 6) [1, 2, 3, 4] rfl kr rfl (pr_assign rfl rfl) (.inr rfl) rfl rfl ?_
  refine D_done kr ?_
  refine T_seq ?_
  refine T_regI ?_
  refine LI_opP hF rfl rfl (op_pr (pr_move rfl rfl) rfl rfl ?_)
  refine LI_opP hF rfl rfl (op_ld (ld_rdb (src_rd 2 rfl) rfl Tryz.underlying27 rfl rfl rfl) rfl rfl ?_)
  refine LI_opP hF rfl rfl (op_pr (pr_move rfl rfl) rfl rfl ?_)
  refine LI_opP hF rfl rfl (op_pr (pr_move rfl rfl) rfl rfl ?_)
  refine LI_opP hF rfl rfl (op_pr (pr_move rfl rfl) rfl rfl ?_)
  refine LI_opP hF rfl rfl (op_pr (pr_add (na_i64 (a := z * k) (b := min z (n - (z * k))) sd) rfl rfl rfl) rfl rfl ?_)
  refine LI_opP hF rfl rfl (op_pr (pr_move rfl rfl) rfl rfl ?_)
  refine LI_opP hF rfl rfl (op_pr (pr_move rfl rfl) rfl rfl ?_)
  refine LI_opP hF rfl rfl (op_pr (pr_add (na_i64 (a := z * k) (b := min z (n - (z * k))) sd) rfl rfl rfl) rfl rfl ?_)
  refine LI_opP hF rfl rfl (op_slice3_rd (l := z * k) (u := z * k + (min z (n - (z * k)))) 4 rfl sd sd Tryz.underlying27 kr rfl rfl rfl rfl rfl rfl rfl (fun B3 => ?_))
  refine T_as 0 _ (.rd B3 1 (z * k + (min z (n - (z * k))) - (z * k)) (z * k + (min z (n - (z * k))) - (z * k)) ((List.take (z * k + (min z (n - (z * k))) - (z * k)) (List.drop (z * k) b)).map b8)) rfl (by congr 1; simp [List.map_take, List.map_drop]) ?_
  refine T_slot 28 _ (.slice B3 (min z (n - z * k)) (min z (n - z * k))) rfl (by congr 1 <;> omega) ?_
  refine T_as 0 _ (.rd B3 1 (min z (n - z * k)) (min z (n - z * k)) ((List.take (min z (n - z * k)) (List.drop (z * k) b)).map b8)) rfl (by congr 1 <;> simp) ?_
  refine LI_op rfl (op_yield (k := k) (B3 : Option Addr) hy (chunk_lt z n k hz aS) hsJ hsX 2 rfl [0] rfl rfl rfl rfl rfl rfl rfl rfl rfl (fun _ => trivial) (fun O4 R5 => ?_) (fun O6 R7 => ?_))
  ·refine LI_opP hF rfl rfl (op_pr (pr_un (v := .bool false) rfl rfl rfl) rfl rfl ?_)
   refine LI_nil ?_
   refine T_cond_f rfl ?_
   refine T_skip ?_
   refine lR ?_
   refine lM ?_
   refine lQ (ld_rdb (src_rd 4 rfl) rfl Tryz.underlying3 rfl rfl rfl) ?_
   refine lO (pr_add (na_i64 (a := z * k) (b := z) sd) rfl rfl rfl) ?_
   refine lS ?_
   refine L_nil ?_
   refine T_slot 4 (.int .i64 ((z * k + z : Nat) : Int)) (.int .i64 ((z * (k + 1) : Nat) : Int)) rfl (by rw [hmk1]) ?_
   exact T_again (k + 1, O4, R5) (chunk_le z n k hz aS) (by have := chunk_lt z n k hz aS; dsimp only; omega) (sc rfl (sc rfl (sc rfl (sc rfl sn)))) [0, 3, 4, 5] ⟨by decide, rfl⟩
  refine LI_opP hF rfl rfl (op_pr (pr_un (v := .bool true) rfl rfl rfl) rfl rfl ?_)
  refine LI_nil ?_
  refine T_cond_t rfl ?_
  refine T_ret ?_
  exact T_finX rfl rfl 0 rfl
 have hc_1 := of_decide_eq_false hc_1
 refine T_exit rfl ?_
 obtain rfl : k = (n + z - 1) / z := chunk_ge z n k hz aS aS
 exact T_finJ rfl rfl 0 rfl
set_option maxHeartbeats 4000000 in
theorem chunk_f (A : Option Addr) (n : Nat) (c : Nat) (z : Nat) (w : World) (hO : HOK [] w) (hz : 0 < z) : Calls Tryz.prog 45 [(.slice A n c), (.int .i64 ((z : Nat) : Int))].toArray w (Ret (T := Nat × Nat) [] w (fun ⟨g1, g2⟩ => True) (fun ⟨g1, g2⟩ => (.func (.func 67) #[] [(.pointer (some ⟨g1, 0, none⟩)), (.pointer (some ⟨g2, 0, none⟩))].toArray)) (fun ⟨g1, g2⟩ => [.old (some ⟨g1, 0, none⟩) 1 1 1 [(.slice A n c)], .old (some ⟨g2, 0, none⟩) 1 1 1 [(.int .i64 ((z : Nat) : Int))]])) := by
 refine enter (c := _) Tryz.func45 rfl [] _ [] (by rw [Tryz.ntmps45]; rfl) (own_rds hO rfl) ?_
 rw [Tryz.ntmps45]
 refine lE [(0, (.slice A n c)), (1, (.int .i64 ((z : Nat) : Int)))] ?_
 refine lH [] [] ?_
 refine lT ?_
 refine L_op rfl (op_box (zs := [(.slice A n c)]) rfl rfl rfl rfl rfl (fun g1 => ?_))
 refine L_op rfl (op_box (zs := [(.int .i64 ((z : Nat) : Int))]) rfl rfl rfl rfl rfl (fun g2 => ?_))
 refine lS ?_
 refine L_nil ?_
 refine T_seq ?_
 refine lT ?_
 refine lQ (ld_blk 0 rfl rfl Tryz.underlying3 rfl rfl rfl) ?_
 refine lO (pr_cmp (bo := .lss) (nc_lt (a := z) (b := 1)) rfl rfl rfl rfl) ?_
 refine L_nil ?_
 refine T_cond_no (t := decide (z < 1)) rfl (by rw [decide_eq_false_iff_not]; omega) ?_
 refine T_skip ?_
 refine lT ?_
 refine lO (pr_mkfn (us := []) (vs := [(.pointer (some ⟨g1, 0, none⟩)), (.pointer (some ⟨g2, 0, none⟩))]) rfl rfl rfl) ?_
 refine lS ?_
 refine L_nil ?_
 refine T_ret ?_
 refine T_oldb 1 (zs := [(.slice A n c)]) 0 1 1 1 rfl rfl rfl sd sd ?_
 refine T_oldb 1 (zs := [(.int .i64 ((z : Nat) : Int))]) 0 1 1 1 rfl rfl rfl sd sd ?_
 exact T_fin (g1, g2) qN (res1 rfl rfl) [1, 0] ⟨by decide, rfl⟩ rfl
end Go.Proofs.YtlplpmkdebemnaaGreat
namespace Go.Proofs.YtlplpmkdebemnaaGreat
set_option maxRecDepth 100000
open Go.RowKit Bv Fw
set_option maxHeartbeats 4000000 in
theorem grow_f (n : Nat) (w : World) (hO : HOK [] w) (hn : n ≤ 100000000000000) : Calls Tryz.prog 93 [(.slice none 0 0), (.int .i64 ((n : Nat) : Int))].toArray w (Ret (T := Option Addr × Nat) [] w (fun ⟨B, d⟩ => True) (fun ⟨B, d⟩ => (.slice B 0 d)) (fun ⟨B, d⟩ => [.row (.slice B 0 d) 5 1 0 []])) := by
 refine enter (c := _) Tryz.func93 rfl [] _ [] (by rw [Tryz.ntmps93]; rfl) (own_rds hO rfl) ?_
 rw [Tryz.ntmps93]
 refine lE [(0, (.slice none 0 0)), (1, (.int .i64 ((n : Nat) : Int)))] ?_
 refine lH [] [] ?_
 refine lT ?_
 refine lS ?_
 refine L_nil ?_
 refine T_seq ?_
 refine lT ?_
 refine lM ?_
 refine lO (pr_cmp (bo := .lss) (nc_lt (a := n) (b := 0)) rfl rfl rfl rfl) ?_
 refine L_nil ?_
 refine T_cond_f rfl ?_
 refine T_skip ?_
 refine T_seq ?_
 refine lT ?_
 refine lM ?_
 refine lM ?_
 refine lO (pr_cap_sl Tryz.underlying27 rfl rfl) ?_
 refine lM ?_
 refine lO (pr_len_sl Tryz.underlying27 rfl rfl) ?_
 refine lO (pr_sub (ns_i64 (a := 0) (b := 0) sd sd) rfl rfl rfl) ?_
 refine lO (pr_sub (ns_i64 (a := n) (b := 0 - 0) sd sd) rfl rfl rfl) ?_
 refine lS ?_
 refine lN ?_
 refine lM ?_
 refine lO (pr_cmp (bo := .gtr) (nc_lt (a := 0) (b := n - (0 - 0))) rfl rfl rfl rfl) ?_
 refine L_nil ?_
 refine T_cond (decide (0 < n - (0 - 0))) rfl (fun hc_1 => ?_) (fun hc_1 => ?_)
 ·have hc_1 := of_decide_eq_true hc_1
  refine lR ?_
  refine lM ?_
  refine lM ?_
  refine lO (pr_cap_sl Tryz.underlying27 rfl rfl) ?_
  refine T_nilrow 5 1 ?_
  refine L_op rfl (op_reslice (u := 0) 0 rfl sd Tryz.underlying27 kr rfl rfl rfl rfl rfl ?_)
  refine T_as 0 _ (.row (.slice none 0 0) 5 1 0 []) rfl (by rfl) ?_
  refine lM ?_
  refine L_op rfl (op_append0 (z := (b8 (0#8))) (bytes := 1) (m := n - (0 - 0)) 0 rfl Tryz.underlying27 Tryz.underlying3 kr rfl rfl sd sd rfl rfl rfl rfl rfl (fun A2 C3 => ?_))
  refine T_as 0 _ (.row (.slice A2 (0 + (n - (0 - 0))) C3) 5 1 (0 + (n - (0 - 0))) ((List.replicate (n - (0 - 0)) 0#8).map b8)) rfl (by congr 1; simp) ?_
  refine lM ?_
  refine lO (pr_len_sl Tryz.underlying27 rfl rfl) ?_
  refine L_op rfl (op_reslice (u := 0) 0 rfl sd Tryz.underlying27 kr rfl rfl rfl rfl rfl ?_)
  refine T_as 0 _ (.row (.slice A2 0 C3) 5 1 0 []) rfl (by rfl) ?_
  refine lS ?_
  refine lN ?_
  refine lM ?_
  refine lS ?_
  refine L_nil ?_
  refine T_ret ?_
  exact T_fin (A2, C3) qN (res1 rfl rfl) [0] ⟨by decide, rfl⟩ rfl
 have hc_1 := of_decide_eq_false hc_1
 refine T_skip ?_
 refine lT ?_
 refine lM ?_
 refine lS ?_
 refine L_nil ?_
 refine T_ret ?_
 refine T_nilrow 5 1 ?_
 exact T_fin (none, 0) qN (res1 rfl rfl) [0] ⟨by decide, rfl⟩ rfl
set_option maxHeartbeats 4000000 in
theorem concat_f (Q : List Pt) (A : Option Addr) (n : Nat) (c : Nat) (w : World) (hO : HOK [.rd A 1 n c (Q.map Pt.sl), .all Q] w) (hn : Q.length = n) (hs : (catp Q).length ≤ 100000000000000) (hn2 : n ≤ 100000000000000) : Calls Tryz.prog 78 [(.slice A n c)].toArray w (Ret (T := Option Addr × Nat) [] w (fun ⟨B, d⟩ => True) (fun ⟨B, d⟩ => (.slice B ((catp Q).length) d)) (fun ⟨B, d⟩ => [.row (.slice B ((catp Q).length) d) 5 1 ((catp Q).length) ((catp Q).map b8)])) := by
 refine enter (c := _) Tryz.func78 rfl [] _ [.rd A 1 n c (Q.map Pt.sl), .all Q] (by rw [Tryz.ntmps78]; rfl) (own_rds hO rfl) ?_
 rw [Tryz.ntmps78]
 refine lE [(0, (.slice A n c))] ?_
 refine lH [0, 1] [.rd A 1 n c (Q.map Pt.sl), .all Q] ?_
 refine lT ?_
 refine lS ?_
 refine lN ?_
 refine lS ?_
 refine L_nil ?_
 refine T_seq ?_
 refine lT ?_
 refine lM ?_
 refine lO (pr_len_sl Tryz.underlying85 rfl rfl) ?_
 refine lM ?_
 refine L_nil ?_
 refine T_block ?_
 refine T_slot 3 (.int .i64 ((0 : Nat) : Int)) (.int .i64 (((catp (Q.take 0)).length : Nat) : Int)) rfl (rfl) ?_
 refine T_loop (T := Nat) (fun k => k ≤ n) (fun k => [(0, (.slice A n c)), (3, (.int .i64 (((catp (Q.take k)).length : Nat) : Int))), (9, (.slice A n c)), (10, (.int .i64 ((n : Nat) : Int))), (11, (.int .i64 ((k : Nat) : Int)))]) (fun k => [.rd A 1 n c (Q.map Pt.sl), .all Q]) (fun k => n - k) 0 pN (sc rfl (sc rfl (sc rfl (sc rfl (sc rfl sn))))) [0, 1] ⟨by decide, rfl⟩ ?_
 rintro k hp
 have hp : k ≤ n := hp
 have hle := catp_le Q k
 have hle1 := catp_le Q (k + 1)
 have hct : k < n → (catp (Q.take (k + 1))).length = (catp (Q.take k)).length + (pat Q k).xs.length := fun h => by rw [catp_take oM, List.length_append]
 refine lE [(0, (.slice A n c)), (3, (.int .i64 (((catp (Q.take k)).length : Nat) : Int))), (9, (.slice A n c)), (10, (.int .i64 ((n : Nat) : Int))), (11, (.int .i64 ((k : Nat) : Int)))] ?_
 refine lH [0, 1] [.rd A 1 n c (Q.map Pt.sl), .all Q] ?_
 refine lT ?_
 refine lO (pr_cmp (bo := .lss) (nc_lt (a := k) (b := n)) rfl rfl rfl rfl) ?_
 refine L_nil ?_
 refine T_seq ?_
 refine T_cond (decide (k < n)) rfl (fun hc_1 => ?_) (fun hc_1 => ?_)
 ·have hc_1 := of_decide_eq_true hc_1
  refine T_skip ?_
  refine T_seq ?_
  refine T_block ?_
  refine lT ?_
  refine lO (pr_ixs1 (j := k) (src_none (src_rd 0 rfl)) sd Tryz.underlying85 kr rfl rfl rfl) ?_
  refine lQ (ld_src (m := k) (src_rd 0 rfl) (pat_get sd) Tryz.underlying27 rfl rfl rfl) ?_
  refine T_ofall 1 rfl (pat_mem (L := Q) (j := k) sd) (fun hl_2 hm_3 => ?_)
  refine lS ?_
  refine lN ?_
  refine lM ?_
  refine lM ?_
  refine lO (pr_len_sl Tryz.underlying27 rfl rfl) ?_
  refine lO (pr_add (na_i64 (a := (catp (Q.take k)).length) (b := (pat Q k).n) sd) rfl rfl rfl) ?_
  refine lS ?_
  refine lN ?_
  refine lM ?_
  refine lO (pr_cmp (bo := .lss) (nc_lt (a := (catp (Q.take k)).length + ((pat Q k).n)) (b := 0)) rfl rfl rfl rfl) ?_
  refine L_nil ?_
  refine T_cond_f rfl ?_
  refine T_skip ?_
  refine lR ?_
  refine lO (pr_add (na_i64 (a := k) (b := 1) sd) rfl rfl rfl) ?_
  refine lM ?_
  refine L_nil ?_
  refine T_slot 3 _ (.int .i64 (((catp (Q.take (k + 1))).length : Nat) : Int)) rfl (by rw [hct aS]; congr 2; omega) ?_
  exact T_again (k + 1) pN pN (sc rfl (sc rfl (sc rfl (sc rfl (sc rfl sn))))) [1, 2] ⟨by decide, rfl⟩
 have hc_1 := of_decide_eq_false hc_1
 refine T_exit rfl ?_
 obtain rfl : n = k := by omega
 refine lT ?_
 refine lM ?_
 refine L_op rfl (op_cn (fun w hw => grow_f ((catp (Q.take n)).length) w (hok_nil w) sd) (enters_of Tryz.func93 kr rfl) rfl rfl rfl rfl rfl (fun t4 q5 => ?_))
 obtain ⟨B6, d7⟩ := t4
 refine lS ?_
 refine L_nil ?_
 refine T_seq ?_
 refine lT ?_
 refine lM ?_
 refine lO (pr_len_sl Tryz.underlying85 rfl rfl) ?_
 refine lM ?_
 refine L_nil ?_
 refine T_block ?_
 refine T_slot 6 (.slice B6 0 d7) (.slice B6 ((catp (Q.take 0)).length) d7) rfl (rfl) ?_
 refine T_as 0 _ (.row (.slice B6 ((catp (Q.take 0)).length) d7) 5 1 ((catp (Q.take 0)).length) ((catp (Q.take 0)).map b8)) rfl (rfl) ?_
 refine T_loop (T := Nat × Option Addr × Nat) (fun ⟨k, A1, c1⟩ => k ≤ n) (fun ⟨k, A1, c1⟩ => [(6, (.slice A1 ((catp (Q.take k)).length) c1)), (25, (.slice A n c)), (26, (.int .i64 ((n : Nat) : Int))), (27, (.int .i64 ((k : Nat) : Int)))]) (fun ⟨k, A1, c1⟩ => [.row (.slice A1 ((catp (Q.take k)).length) c1) 5 1 ((catp (Q.take k)).length) ((catp (Q.take k)).map b8), .rd A 1 n c (Q.map Pt.sl), .all Q]) (fun ⟨k, A1, c1⟩ => n - k) (0, B6, d7) pN (sc rfl (sc rfl (sc rfl (sc rfl sn)))) [0, 1, 2] ⟨by decide, rfl⟩ ?_
 rintro ⟨k, A1, c1⟩ hp
 have hp : k ≤ n := hp
 have hle := catp_le Q k
 have hle1 := catp_le Q (k + 1)
 have hct : k < n → (catp (Q.take (k + 1))).length = (catp (Q.take k)).length + (pat Q k).xs.length := fun h => by rw [catp_take oM, List.length_append]
 refine lE [(6, (.slice A1 ((catp (Q.take k)).length) c1)), (25, (.slice A n c)), (26, (.int .i64 ((n : Nat) : Int))), (27, (.int .i64 ((k : Nat) : Int)))] ?_
 refine lH [0, 1, 2] [.row (.slice A1 ((catp (Q.take k)).length) c1) 5 1 ((catp (Q.take k)).length) ((catp (Q.take k)).map b8), .rd A 1 n c (Q.map Pt.sl), .all Q] ?_
 refine lT ?_
 refine lO (pr_cmp (bo := .lss) (nc_lt (a := k) (b := n)) rfl rfl rfl rfl) ?_
 refine L_nil ?_
 refine T_seq ?_
 refine T_cond (decide (k < n)) rfl (fun hc_8 => ?_) (fun hc_8 => ?_)
 ·have hc_8 := of_decide_eq_true hc_8
  refine T_skip ?_
  refine T_seq ?_
  refine T_block ?_
  refine lT ?_
  refine lO (pr_ixs1 (j := k) (src_none (src_rd 1 rfl)) sd Tryz.underlying85 kr rfl rfl rfl) ?_
  refine lQ (ld_src (m := k) (src_rd 1 rfl) (pat_get sd) Tryz.underlying27 rfl rfl rfl) ?_
  refine T_ofall 2 rfl (pat_mem (L := Q) (j := k) sd) (fun hl_9 hm_10 => ?_)
  refine lS ?_
  refine L_nil ?_
  refine lR ?_
  refine lM ?_
  refine lM ?_
  refine L_op rfl (op_append (z := (b8 (0#8))) (size := 1) (bytes := 1) 1 rfl Tryz.underlying27 kr kr (by decide) (src_rd 0 rfl) (all8_one _) sd sd rfl rfl rfl rfl rfl (fun A11 C12 => ?_))
  refine T_as 0 _ (.row (.slice A11 ((catp (Q.take k)).length + ((pat Q k).n)) C12) 5 1 ((catp (Q.take k)).length + ((pat Q k).n)) (((catp (Q.take k)) ++ (pat Q k).xs).map b8)) rfl (by congr 1; simp; done) ?_
  refine lS ?_
  refine L_nil ?_
  refine lR ?_
  refine lO (pr_add (na_i64 (a := k) (b := 1) sd) rfl rfl rfl) ?_
  refine lM ?_
  refine L_nil ?_
  refine T_slot 6 (.slice A11 ((catp (Q.take k)).length + ((pat Q k).n)) C12) (.slice A11 ((catp (Q.take (k + 1))).length) C12) rfl (by rw [hct aS]; congr 1; omega) ?_
  refine T_as 0 _ (.row (.slice A11 ((catp (Q.take (k + 1))).length) C12) 5 1 ((catp (Q.take (k + 1))).length) ((catp (Q.take (k + 1))).map b8)) rfl (by rw [catp_take oM, List.length_append]; congr 1 <;> simp <;> omega) ?_
  exact T_again (k + 1, A11, C12) pN pN (sc rfl (sc rfl (sc rfl (sc rfl sn)))) [0, 2, 3] ⟨by decide, rfl⟩
 have hc_8 := of_decide_eq_false hc_8
 refine T_exit rfl ?_
 obtain rfl : n = k := by omega
 refine lT ?_
 refine lM ?_
 refine lS ?_
 refine L_nil ?_
 refine T_ret ?_
 refine T_slot 2 (.slice A1 ((catp (Q.take n)).length) c1) (.slice A1 ((catp Q).length) c1) rfl (by rw [List.take_of_length_le oM]) ?_
 refine T_as 0 _ (.row (.slice A1 ((catp Q).length) c1) 5 1 ((catp Q).length) ((catp Q).map b8)) rfl (by rw [List.take_of_length_le oM]) ?_
 exact T_fin (A1, c1) qN (res1 rfl rfl) [0] ⟨by decide, rfl⟩ rfl
end Go.Proofs.YtlplpmkdebemnaaGreat
namespace Go.Proofs.YtlplpmkdebemnaaGreat
set_option maxRecDepth 100000
open Go.RowKit Bv Fw
end Go.Proofs.YtlplpmkdebemnaaGreat
namespace Go.Proofs.YtlplpmkdebemnaaGreat
set_option maxRecDepth 100000
open Go.RowKit Bv Fw
def eights : List (BitVec 64) → List (BitVec 8)
  | [] => []
  | x :: xs => lowb x 8 ++ eights xs
theorem eights_len : ∀ xs, (eights xs).length = 8 * xs.length
  | [] => rfl
  | x :: xs => by rw [eights, List.length_append, lowb_len, eights_len xs, List.length_cons]; omega
theorem eights_app (xs ys : List (BitVec 64)) : eights (xs ++ ys) = eights xs ++ eights ys := by
  induction xs with
  | nil => rfl
  | cons x xs ih => rw [List.cons_append, eights, eights, ih, List.append_assoc]
theorem eights_take (xs : List (BitVec 64)) (k : Nat) (h : k < xs.length) : eights (xs.take (k + 1)) = eights (xs.take k) ++ lowb (ath xs k) 8 := by
  rw [List.take_succ_eq_append_getElem h, eights_app, ath_get xs k h]
  simp [eights]
def wds (b : List (BitVec 8)) : Nat → List (BitVec 64)
  | 0 => []
  | k + 1 => wds b k ++ [low (List.take 8 (List.drop (8 * k) b)) 8]
theorem wds_len (b : List (BitVec 8)) : ∀ k, (wds b k).length = k
  | 0 => rfl
  | k + 1 => by rw [wds, List.length_append, wds_len b k]; rfl
theorem num8 (b : List (BitVec 8)) : ((((((((0#64 <<< 8 ||| (ath b 7).setWidth 64) <<< 8 ||| (ath b 6).setWidth 64) <<< 8 ||| (ath b 5).setWidth 64) <<< 8 ||| (ath b 4).setWidth 64) <<< 8 ||| (ath b 3).setWidth 64) <<< 8 ||| (ath b 2).setWidth 64) <<< 8 ||| (ath b 1).setWidth 64) <<< 8 ||| (ath b 0).setWidth 64) = low b 8 := by
  simp only [low]
  generalize (ath b 0).setWidth 64 = x0
  generalize (ath b 1).setWidth 64 = x1
  generalize (ath b 2).setWidth 64 = x2
  generalize (ath b 3).setWidth 64 = x3
  generalize (ath b 4).setWidth 64 = x4
  generalize (ath b 5).setWidth 64 = x5
  generalize (ath b 6).setWidth 64 = x6
  generalize (ath b 7).setWidth 64 = x7
  simp only [BitVec.shiftLeft_or_distrib, ← BitVec.shiftLeft_add, BitVec.zero_shiftLeft, BitVec.zero_or, Nat.reduceAdd, Nat.reduceMul, BitVec.shiftLeft_zero]
  generalize x1 <<< 8 = y1
  generalize x2 <<< 16 = y2
  generalize x3 <<< 24 = y3
  generalize x4 <<< 32 = y4
  generalize x5 <<< 40 = y5
  generalize x6 <<< 48 = y6
  generalize x7 <<< 56 = y7
  clear b
  ac_rfl
set_option maxHeartbeats 4000000 in
theorem r8eight_f (v : BitVec 64) (w : World) (hO : HOK [] w)  : Calls Tryz.prog 65 [(b64 v)].toArray w (Ret (T := Option Addr × Nat) [] w (fun ⟨B, d⟩ => True) (fun ⟨B, d⟩ => (.slice B 8 d)) (fun ⟨B, d⟩ => [.row (.slice B 8 d) 5 1 8 ((lowb v 8).map b8)])) := by
 refine enter (c := _) Tryz.func65 rfl [] _ [] (by rw [Tryz.ntmps65]; rfl) (own_rds hO rfl) ?_
 rw [Tryz.ntmps65]
 refine lE [(0, (b64 v))] ?_
 refine lH [] [] ?_
 refine lT ?_
 refine lS ?_
 refine lN ?_
 refine lS ?_
 refine L_nil ?_
 refine T_seq ?_
 refine lT ?_
 refine lS ?_
 refine L_nil ?_
 refine T_block ?_
 refine T_nilrow 5 1 ?_
 refine T_as 0 _ (.row (.slice none 0 0) 5 1 0 ((lowb v 0).map b8)) rfl (by rfl) ?_
 refine T_loop (T := Nat × Option Addr × Nat) (fun ⟨k, A1, c1⟩ => k ≤ 8) (fun ⟨k, A1, c1⟩ => [(0, (b64 v)), (3, (.slice A1 k c1)), (4, (.int .i64 ((k : Nat) : Int)))]) (fun ⟨k, A1, c1⟩ => [.row (.slice A1 k c1) 5 1 k ((lowb v k).map b8)]) (fun ⟨k, A1, c1⟩ => 8 - k) (0, none, 0) pN (sc rfl (sc rfl (sc rfl sn))) [0] ⟨by decide, rfl⟩ ?_
 rintro ⟨k, A1, c1⟩ hp
 have hp : k ≤ 8 := hp
 refine lE [(0, (b64 v)), (3, (.slice A1 k c1)), (4, (.int .i64 ((k : Nat) : Int)))] ?_
 refine lH [0] [.row (.slice A1 k c1) 5 1 k ((lowb v k).map b8)] ?_
 refine T_seq ?_
 refine lT ?_
 refine lM ?_
 refine lO (pr_cmp (bo := .lss) (nc_lt (a := k) (b := 8)) rfl rfl rfl rfl) ?_
 refine L_nil ?_
 refine T_cond (decide (k < 8)) rfl (fun hc_1 => ?_) (fun hc_1 => ?_)
 ·have hc_1 := of_decide_eq_true hc_1
  refine T_skip ?_
  refine T_seq ?_
  refine T_block ?_
  refine lR ?_
  refine lM ?_
  refine lM ?_
  refine lM ?_
  refine lO (pr_mul (nm_i64 (a := 8) (b := k) sd) rfl rfl rfl) ?_
  refine lO (pr_cv (ni_u64 (a := 8 * k) sd) Tryz.underlying3 Tryz.underlying39 rfl rfl) ?_
  refine lO (pr_shift (sh_shr64 v _ (8 * k)) rfl rfl rfl rfl) ?_
  refine lO (pr_cv (cv64_8 _) Tryz.underlying23 Tryz.underlying5 rfl rfl) ?_
  refine L_op rfl (op_bslice (e := 5) (zs := [(b8 ((v >>> (8 * k)).setWidth 8))]) (qs := [(0, (b8 ((v >>> (8 * k)).setWidth 8)))]) (fun _ => by kernel_rfl) rfl rfl rfl rfl (fun g2 => ?_))
  refine L_op rfl (op_append (z := (b8 (0#8))) (size := 1) (bytes := 1) 1 rfl Tryz.underlying27 kr kr (by decide) (src_full (z := 1) 0 rfl rfl sd sd) (by simp [Value.oneCell']) sd sd rfl rfl rfl rfl rfl (fun A3 C4 => ?_))
  refine T_as 0 _ (.row (.slice A3 (k + 1) C4) 5 1 (k + 1) (((lowb v k) ++ [((v >>> (8 * k)).setWidth 8)]).map b8)) rfl (by congr 1; simp; done) ?_
  refine lS ?_
  refine L_nil ?_
  refine lR ?_
  refine lM ?_
  refine lO (pr_add (na_i64 (a := k) (b := 1) sd) rfl rfl rfl) ?_
  refine lS ?_
  refine L_nil ?_
  refine T_as 0 _ (.row (.slice A3 (k + 1) C4) 5 1 (k + 1) ((lowb v (k + 1)).map b8)) rfl (by rfl) ?_
  exact T_again (k + 1, A3, C4) pN pN (sc rfl (sc rfl (sc rfl sn))) [0] ⟨by decide, rfl⟩
 have hc_1 := of_decide_eq_false hc_1
 refine T_exit rfl ?_
 obtain rfl : 8 = k := by omega
 refine lT ?_
 refine lM ?_
 refine lS ?_
 refine L_nil ?_
 refine T_ret ?_
 exact T_fin (A1, c1) qN (res1 rfl rfl) [0] ⟨by decide, rfl⟩ rfl
set_option maxHeartbeats 4000000 in
theorem r8eights_f (xs : List (BitVec 64)) (A : Option Addr) (n : Nat) (c : Nat) (w : World) (hO : HOK [.rd A 1 n c (xs.map b64)] w) (hx : xs.length = n) (hn : n ≤ 100) : Calls Tryz.prog 43 [(.slice A n c)].toArray w (Ret (T := Option Addr × Nat) [] w (fun ⟨B, d⟩ => True) (fun ⟨B, d⟩ => (.slice B (8 * n) d)) (fun ⟨B, d⟩ => [.row (.slice B (8 * n) d) 5 1 (8 * n) ((eights xs).map b8)])) := by
 refine enter (c := _) Tryz.func43 rfl [] _ [.rd A 1 n c (xs.map b64)] (by rw [Tryz.ntmps43]; rfl) (own_rds hO rfl) ?_
 rw [Tryz.ntmps43]
 refine lE [(0, (.slice A n c))] ?_
 refine lH [0] [.rd A 1 n c (xs.map b64)] ?_
 refine lT ?_
 refine lS ?_
 refine lN ?_
 refine lS ?_
 refine L_nil ?_
 refine T_seq ?_
 refine lT ?_
 refine lS ?_
 refine L_nil ?_
 refine T_block ?_
 refine T_slot 3 (.slice none 0 0) (.slice none (8 * 0) 0) rfl (by rfl) ?_
 refine T_nilrow 5 1 ?_
 refine T_as 0 _ (.row (.slice none (8 * 0) 0) 5 1 (8 * 0) ((eights (xs.take 0)).map b8)) rfl (by rfl) ?_
 refine T_loop (T := Nat × Option Addr × Nat) (fun ⟨k, A1, c1⟩ => k ≤ n) (fun ⟨k, A1, c1⟩ => [(0, (.slice A n c)), (3, (.slice A1 (8 * k) c1)), (4, (.int .i64 ((k : Nat) : Int)))]) (fun ⟨k, A1, c1⟩ => [.row (.slice A1 (8 * k) c1) 5 1 (8 * k) ((eights (xs.take k)).map b8), .rd A 1 n c (xs.map b64)]) (fun ⟨k, A1, c1⟩ => n - k) (0, none, 0) pN (sc rfl (sc rfl (sc rfl sn))) [0, 1] ⟨by decide, rfl⟩ ?_
 rintro ⟨k, A1, c1⟩ hp
 have hp : k ≤ n := hp
 refine lE [(0, (.slice A n c)), (3, (.slice A1 (8 * k) c1)), (4, (.int .i64 ((k : Nat) : Int)))] ?_
 refine lH [0, 1] [.row (.slice A1 (8 * k) c1) 5 1 (8 * k) ((eights (xs.take k)).map b8), .rd A 1 n c (xs.map b64)] ?_
 refine T_seq ?_
 refine lT ?_
 refine lM ?_
 refine lM ?_
 refine lO (pr_len_sl Tryz.underlying77 rfl rfl) ?_
 refine lO (pr_cmp (bo := .lss) (nc_lt (a := k) (b := n)) rfl rfl rfl rfl) ?_
 refine L_nil ?_
 refine T_cond (decide (k < n)) rfl (fun hc_1 => ?_) (fun hc_1 => ?_)
 ·have hc_1 := of_decide_eq_true hc_1
  refine T_skip ?_
  refine T_seq ?_
  refine T_block ?_
  refine lR ?_
  refine lM ?_
  refine lM ?_
  refine lM ?_
  refine lO (pr_ixs1 (j := k) (src_none (src_rd 1 rfl)) sd Tryz.underlying77 kr rfl rfl rfl) ?_
  refine lQ (ld_src (m := k) (src_rd 1 rfl) (get64 sd) Tryz.underlying23 rfl rfl rfl) ?_
  refine L_op rfl (op_cn (fun w hw => r8eight_f (ath xs k) w (hok_nil w) ) (enters_of Tryz.func65 kr rfl) rfl rfl rfl rfl rfl (fun t2 q3 => ?_))
  obtain ⟨B4, d5⟩ := t2
  refine L_op rfl (op_append (z := (b8 (0#8))) (size := 1) (bytes := 1) 1 rfl Tryz.underlying27 kr kr (by decide) (src_row 0 rfl) (all8_one _) sd sd rfl rfl rfl rfl rfl (fun A6 C7 => ?_))
  refine T_as 0 _ (.row (.slice A6 (8 * k + 8) C7) 5 1 (8 * k + 8) (((eights (xs.take k)) ++ (lowb (ath xs k) 8)).map b8)) rfl (by congr 1; simp; done) ?_
  refine lS ?_
  refine L_nil ?_
  refine lR ?_
  refine lM ?_
  refine lO (pr_add (na_i64 (a := k) (b := 1) sd) rfl rfl rfl) ?_
  refine lS ?_
  refine L_nil ?_
  refine T_slot 3 (.slice A6 (8 * k + 8) C7) (.slice A6 (8 * (k + 1)) C7) rfl (by rfl) ?_
  refine T_as 0 _ (.row (.slice A6 (8 * (k + 1)) C7) 5 1 (8 * (k + 1)) ((eights (xs.take (k + 1))).map b8)) rfl (by rw [eights_take _ _ oM]; rfl) ?_
  exact T_again (k + 1, A6, C7) pN pN (sc rfl (sc rfl (sc rfl sn))) [0, 2] ⟨by decide, rfl⟩
 have hc_1 := of_decide_eq_false hc_1
 refine T_exit rfl ?_
 obtain rfl : n = k := by omega
 refine lT ?_
 refine lM ?_
 refine lS ?_
 refine L_nil ?_
 refine T_ret ?_
 refine T_as 0 _ (.row (.slice A1 (8 * n) c1) 5 1 (8 * n) ((eights xs).map b8)) rfl (by rw [List.take_of_length_le oM]) ?_
 exact T_fin (A1, c1) qN (res1 rfl rfl) [0] ⟨by decide, rfl⟩ rfl
set_option maxHeartbeats 4000000 in
theorem number_f (b : List (BitVec 8)) (A : Option Addr) (n : Nat) (c : Nat) (w : World) (hO : HOK [.rd A 1 n c (b.map b8)] w) (hn : n = 8) (hb : b.length = n) : Calls Tryz.prog 69 [(.slice A n c)].toArray w (Ret (T := Unit) [] w (fun _ => True) (fun _ => (b64 (low b 8))) (fun _ => [])) := by
 refine enter (c := _) Tryz.func69 rfl [] _ [.rd A 1 n c (b.map b8)] (by rw [Tryz.ntmps69]; rfl) (own_rds hO rfl) ?_
 rw [Tryz.ntmps69]
 refine lE [(0, (.slice A n c))] ?_
 refine lH [0] [.rd A 1 n c (b.map b8)] ?_
 refine lT ?_
 refine lS ?_
 refine lN ?_
 refine lS ?_
 refine L_nil ?_
 refine T_seq ?_
 refine lT ?_
 refine lS ?_
 refine L_nil ?_
 refine T_block ?_
 refine T_rounds 9 ?_
 refine T_round ?_
 refine T_seq ?_
 refine lT ?_
 refine lM ?_
 refine lO (pr_cmp (bo := .geq) (nc_le (a := 0) (b := 7)) rfl rfl rfl rfl) ?_
 refine L_nil ?_
 refine T_cond_t rfl ?_
 refine T_skip ?_
 refine T_seq ?_
 refine T_block ?_
 refine lR ?_
 refine lM ?_
 refine lO (pr_shift (sh_shl64 (0#64) _ 8) rfl rfl rfl rfl) ?_
 refine lM ?_
 refine lM ?_
 refine lO (pr_ixs1 (j := 7) (src_none (src_rd 0 rfl)) sd Tryz.underlying27 kr rfl rfl rfl) ?_
 refine lQ (ld_src (m := 7) (src_rd 0 rfl) (get8 sd) Tryz.underlying5 rfl rfl rfl) ?_
 refine lO (pr_cv (cv8_64 _) Tryz.underlying5 Tryz.underlying23 rfl rfl) ?_
 refine lO (pr_or (ib_or64 _ _) rfl rfl rfl) ?_
 refine lS ?_
 refine L_nil ?_
 refine lR ?_
 refine lM ?_
 refine lO (pr_as (pr_sub (ns_i64 (a := 7) (b := 1) sd sd) rfl rfl rfl) (show Value.int .i64 ((7 - 1 : Nat) : Int) = .int .i64 ((6 : Nat) : Int) from rfl)) ?_
 refine lS ?_
 refine L_nil ?_
 refine T_round ?_
 refine T_seq ?_
 refine lT ?_
 refine lM ?_
 refine lO (pr_cmp (bo := .geq) (nc_le (a := 0) (b := 6)) rfl rfl rfl rfl) ?_
 refine L_nil ?_
 refine T_cond_t rfl ?_
 refine T_skip ?_
 refine T_seq ?_
 refine T_block ?_
 refine lR ?_
 refine lM ?_
 refine lO (pr_shift (sh_shl64 ((0#64 <<< 8) ||| ((ath b 7).setWidth 64)) _ 8) rfl rfl rfl rfl) ?_
 refine lM ?_
 refine lM ?_
 refine lO (pr_ixs1 (j := 6) (src_none (src_rd 0 rfl)) sd Tryz.underlying27 kr rfl rfl rfl) ?_
 refine lQ (ld_src (m := 6) (src_rd 0 rfl) (get8 sd) Tryz.underlying5 rfl rfl rfl) ?_
 refine lO (pr_cv (cv8_64 _) Tryz.underlying5 Tryz.underlying23 rfl rfl) ?_
 refine lO (pr_or (ib_or64 _ _) rfl rfl rfl) ?_
 refine lS ?_
 refine L_nil ?_
 refine lR ?_
 refine lM ?_
 refine lO (pr_as (pr_sub (ns_i64 (a := 6) (b := 1) sd sd) rfl rfl rfl) (show Value.int .i64 ((6 - 1 : Nat) : Int) = .int .i64 ((5 : Nat) : Int) from rfl)) ?_
 refine lS ?_
 refine L_nil ?_
 refine T_round ?_
 refine T_seq ?_
 refine lT ?_
 refine lM ?_
 refine lO (pr_cmp (bo := .geq) (nc_le (a := 0) (b := 5)) rfl rfl rfl rfl) ?_
 refine L_nil ?_
 refine T_cond_t rfl ?_
 refine T_skip ?_
 refine T_seq ?_
 refine T_block ?_
 refine lR ?_
 refine lM ?_
 refine lO (pr_shift (sh_shl64 ((((0#64 <<< 8) ||| ((ath b 7).setWidth 64)) <<< 8) ||| ((ath b 6).setWidth 64)) _ 8) rfl rfl rfl rfl) ?_
 refine lM ?_
 refine lM ?_
 refine lO (pr_ixs1 (j := 5) (src_none (src_rd 0 rfl)) sd Tryz.underlying27 kr rfl rfl rfl) ?_
 refine lQ (ld_src (m := 5) (src_rd 0 rfl) (get8 sd) Tryz.underlying5 rfl rfl rfl) ?_
 refine lO (pr_cv (cv8_64 _) Tryz.underlying5 Tryz.underlying23 rfl rfl) ?_
 refine lO (pr_or (ib_or64 _ _) rfl rfl rfl) ?_
 refine lS ?_
 refine L_nil ?_
 refine lR ?_
 refine lM ?_
 refine lO (pr_as (pr_sub (ns_i64 (a := 5) (b := 1) sd sd) rfl rfl rfl) (show Value.int .i64 ((5 - 1 : Nat) : Int) = .int .i64 ((4 : Nat) : Int) from rfl)) ?_
 refine lS ?_
 refine L_nil ?_
 refine T_round ?_
 refine T_seq ?_
 refine lT ?_
 refine lM ?_
 refine lO (pr_cmp (bo := .geq) (nc_le (a := 0) (b := 4)) rfl rfl rfl rfl) ?_
 refine L_nil ?_
 refine T_cond_t rfl ?_
 refine T_skip ?_
 refine T_seq ?_
 refine T_block ?_
 refine lR ?_
 refine lM ?_
 refine lO (pr_shift (sh_shl64 ((((((0#64 <<< 8) ||| ((ath b 7).setWidth 64)) <<< 8) ||| ((ath b 6).setWidth 64)) <<< 8) ||| ((ath b 5).setWidth 64)) _ 8) rfl rfl rfl rfl) ?_
 refine lM ?_
 refine lM ?_
 refine lO (pr_ixs1 (j := 4) (src_none (src_rd 0 rfl)) sd Tryz.underlying27 kr rfl rfl rfl) ?_
 refine lQ (ld_src (m := 4) (src_rd 0 rfl) (get8 sd) Tryz.underlying5 rfl rfl rfl) ?_
 refine lO (pr_cv (cv8_64 _) Tryz.underlying5 Tryz.underlying23 rfl rfl) ?_
 refine lO (pr_or (ib_or64 _ _) rfl rfl rfl) ?_
 refine lS ?_
 refine L_nil ?_
 refine lR ?_
 refine lM ?_
 refine lO (pr_as (pr_sub (ns_i64 (a := 4) (b := 1) sd sd) rfl rfl rfl) (show Value.int .i64 ((4 - 1 : Nat) : Int) = .int .i64 ((3 : Nat) : Int) from rfl)) ?_
 refine lS ?_
 refine L_nil ?_
 refine T_round ?_
 refine T_seq ?_
 refine lT ?_
 refine lM ?_
 refine lO (pr_cmp (bo := .geq) (nc_le (a := 0) (b := 3)) rfl rfl rfl rfl) ?_
 refine L_nil ?_
 refine T_cond_t rfl ?_
 refine T_skip ?_
 refine T_seq ?_
 refine T_block ?_
 refine lR ?_
 refine lM ?_
 refine lO (pr_shift (sh_shl64 ((((((((0#64 <<< 8) ||| ((ath b 7).setWidth 64)) <<< 8) ||| ((ath b 6).setWidth 64)) <<< 8) ||| ((ath b 5).setWidth 64)) <<< 8) ||| ((ath b 4).setWidth 64)) _ 8) rfl rfl rfl rfl) ?_
 refine lM ?_
 refine lM ?_
 refine lO (pr_ixs1 (j := 3) (src_none (src_rd 0 rfl)) sd Tryz.underlying27 kr rfl rfl rfl) ?_
 refine lQ (ld_src (m := 3) (src_rd 0 rfl) (get8 sd) Tryz.underlying5 rfl rfl rfl) ?_
 refine lO (pr_cv (cv8_64 _) Tryz.underlying5 Tryz.underlying23 rfl rfl) ?_
 refine lO (pr_or (ib_or64 _ _) rfl rfl rfl) ?_
 refine lS ?_
 refine L_nil ?_
 refine lR ?_
 refine lM ?_
 refine lO (pr_as (pr_sub (ns_i64 (a := 3) (b := 1) sd sd) rfl rfl rfl) (show Value.int .i64 ((3 - 1 : Nat) : Int) = .int .i64 ((2 : Nat) : Int) from rfl)) ?_
 refine lS ?_
 refine L_nil ?_
 refine T_round ?_
 refine T_seq ?_
 refine lT ?_
 refine lM ?_
 refine lO (pr_cmp (bo := .geq) (nc_le (a := 0) (b := 2)) rfl rfl rfl rfl) ?_
 refine L_nil ?_
 refine T_cond_t rfl ?_
 refine T_skip ?_
 refine T_seq ?_
 refine T_block ?_
 refine lR ?_
 refine lM ?_
 refine lO (pr_shift (sh_shl64 ((((((((((0#64 <<< 8) ||| ((ath b 7).setWidth 64)) <<< 8) ||| ((ath b 6).setWidth 64)) <<< 8) ||| ((ath b 5).setWidth 64)) <<< 8) ||| ((ath b 4).setWidth 64)) <<< 8) ||| ((ath b 3).setWidth 64)) _ 8) rfl rfl rfl rfl) ?_
 refine lM ?_
 refine lM ?_
 refine lO (pr_ixs1 (j := 2) (src_none (src_rd 0 rfl)) sd Tryz.underlying27 kr rfl rfl rfl) ?_
 refine lQ (ld_src (m := 2) (src_rd 0 rfl) (get8 sd) Tryz.underlying5 rfl rfl rfl) ?_
 refine lO (pr_cv (cv8_64 _) Tryz.underlying5 Tryz.underlying23 rfl rfl) ?_
 refine lO (pr_or (ib_or64 _ _) rfl rfl rfl) ?_
 refine lS ?_
 refine L_nil ?_
 refine lR ?_
 refine lM ?_
 refine lO (pr_as (pr_sub (ns_i64 (a := 2) (b := 1) sd sd) rfl rfl rfl) (show Value.int .i64 ((2 - 1 : Nat) : Int) = .int .i64 ((1 : Nat) : Int) from rfl)) ?_
 refine lS ?_
 refine L_nil ?_
 refine T_round ?_
 refine T_seq ?_
 refine lT ?_
 refine lM ?_
 refine lO (pr_cmp (bo := .geq) (nc_le (a := 0) (b := 1)) rfl rfl rfl rfl) ?_
 refine L_nil ?_
 refine T_cond_t rfl ?_
 refine T_skip ?_
 refine T_seq ?_
 refine T_block ?_
 refine lR ?_
 refine lM ?_
 refine lO (pr_shift (sh_shl64 ((((((((((((0#64 <<< 8) ||| ((ath b 7).setWidth 64)) <<< 8) ||| ((ath b 6).setWidth 64)) <<< 8) ||| ((ath b 5).setWidth 64)) <<< 8) ||| ((ath b 4).setWidth 64)) <<< 8) ||| ((ath b 3).setWidth 64)) <<< 8) ||| ((ath b 2).setWidth 64)) _ 8) rfl rfl rfl rfl) ?_
 refine lM ?_
 refine lM ?_
 refine lO (pr_ixs1 (j := 1) (src_none (src_rd 0 rfl)) sd Tryz.underlying27 kr rfl rfl rfl) ?_
 refine lQ (ld_src (m := 1) (src_rd 0 rfl) (get8 sd) Tryz.underlying5 rfl rfl rfl) ?_
 refine lO (pr_cv (cv8_64 _) Tryz.underlying5 Tryz.underlying23 rfl rfl) ?_
 refine lO (pr_or (ib_or64 _ _) rfl rfl rfl) ?_
 refine lS ?_
 refine L_nil ?_
 refine lR ?_
 refine lM ?_
 refine lO (pr_as (pr_sub (ns_i64 (a := 1) (b := 1) sd sd) rfl rfl rfl) (show Value.int .i64 ((1 - 1 : Nat) : Int) = .int .i64 ((0 : Nat) : Int) from rfl)) ?_
 refine lS ?_
 refine L_nil ?_
 refine T_round ?_
 refine T_seq ?_
 refine lT ?_
 refine lM ?_
 refine lO (pr_cmp (bo := .geq) (nc_le (a := 0) (b := 0)) rfl rfl rfl rfl) ?_
 refine L_nil ?_
 refine T_cond_t rfl ?_
 refine T_skip ?_
 refine T_seq ?_
 refine T_block ?_
 refine lR ?_
 refine lM ?_
 refine lO (pr_shift (sh_shl64 ((((((((((((((0#64 <<< 8) ||| ((ath b 7).setWidth 64)) <<< 8) ||| ((ath b 6).setWidth 64)) <<< 8) ||| ((ath b 5).setWidth 64)) <<< 8) ||| ((ath b 4).setWidth 64)) <<< 8) ||| ((ath b 3).setWidth 64)) <<< 8) ||| ((ath b 2).setWidth 64)) <<< 8) ||| ((ath b 1).setWidth 64)) _ 8) rfl rfl rfl rfl) ?_
 refine lM ?_
 refine lM ?_
 refine lO (pr_ixs1 (j := 0) (src_none (src_rd 0 rfl)) sd Tryz.underlying27 kr rfl rfl rfl) ?_
 refine lQ (ld_src (m := 0) (src_rd 0 rfl) (get8 sd) Tryz.underlying5 rfl rfl rfl) ?_
 refine lO (pr_cv (cv8_64 _) Tryz.underlying5 Tryz.underlying23 rfl rfl) ?_
 refine lO (pr_or (ib_or64 _ _) rfl rfl rfl) ?_
 refine lS ?_
 refine L_nil ?_
 refine lR ?_
 refine lM ?_
 refine lO (pr_as (pr_sub (zw_i64 (z := (((0 : Nat) : Int) - ((1 : Nat) : Int))) sd) rfl rfl rfl) (show Value.int .i64 (((0 : Nat) : Int) - ((1 : Nat) : Int)) = .int .i64 (-1) from rfl)) ?_
 refine lS ?_
 refine L_nil ?_
 refine T_round ?_
 refine T_seq ?_
 refine lT ?_
 refine lM ?_
 refine lO (pr_cmp (bo := .geq) (k := .i64) (a := (-1)) (b := ((0 : Nat) : Int)) (c := decide (((0 : Nat) : Int) ≤ (-1))) rfl rfl rfl rfl rfl) ?_
 refine L_nil ?_
 refine T_cond_no (t := decide (((0 : Nat) : Int) ≤ (-1))) rfl (by decide) ?_
 refine T_exit rfl ?_
 refine lT ?_
 refine lM ?_
 refine lS ?_
 refine L_nil ?_
 refine T_ret ?_
 refine T_slot 2 _ (b64 (low b 8)) rfl (by rw [← num8 b]) ?_
 exact T_fin () qN (res1 rfl rfl) [] ⟨by decide, rfl⟩ rfl
end Go.Proofs.YtlplpmkdebemnaaGreat
namespace Go.Proofs.YtlplpmkdebemnaaGreat
set_option maxRecDepth 100000
open Go.RowKit Bv Fw
def bitw (d : Bool) : BitVec 64 := if d then 1#64 else 0#64
def rpk (r : Rc) : List (BitVec 8) := if r.d then eights [1#64, 0#64, 0#64, 0#64] else eights [0#64, r.k, r.v, r.s]
theorem rpk_len (r : Rc) : (rpk r).length = 32 := by unfold rpk; split <;> rw [eights_len] <;> rfl
theorem rpk_t {d : Bool} {k v s : BitVec 64} (h : d = true) : rpk ⟨d, k, v, s⟩ = eights [1#64, 0#64, 0#64, 0#64] := by subst h; rfl
theorem rpk_f {d : Bool} {k v s : BitVec 64} (h : d = false) : rpk ⟨d, k, v, s⟩ = eights [0#64, k, v, s] := by subst h; rfl
set_option maxHeartbeats 4000000 in
theorem all64_seq (xs : List (BitVec 64)) (A : Option Addr) (n : Nat) (c : Nat) (g1 : Nat) (hx : xs.length = n) (hn : n ≤ 1000000) : SeqC (Θ := Unit) Tryz.prog 70 [(.pointer (some ⟨g1, 0, none⟩))] [.rd (some ⟨g1, 0, none⟩) 1 1 1 [(.slice A n c)], .rd A 1 n c (xs.map b64)] n (fun k _ => [(.int .i64 ((k : Nat) : Int)), (b64 (ath xs k))]) (fun k _ => []) := by
 have hF : Wid Fence.wide := wid_wide
 refine enter_seq (c := _) Tryz.func70 rfl (by rw [Tryz.ntmps70]; rfl) rfl ?_
 intro l J Jx W O R hsJ hsX hy hend
 rw [Tryz.ntmps70]
 refine lE [(0, (.func (.yield l) #[] #[])), (1, (.pointer (some ⟨g1, 0, none⟩)))] ?_
 refine lH [0, 1, 2] [.inv W.heap.size O R (J 0 O R), .rd (some ⟨g1, 0, none⟩) 1 1 1 [(.slice A n c)], .rd A 1 n c (xs.map b64)] ?_
 refine lT ?_
 refine lQ (ld_rdb (src_rd 1 rfl) rfl Tryz.underlying77 rfl rfl rfl) ?_
 refine lO (pr_len_sl Tryz.underlying77 rfl rfl) ?_
 refine lM ?_
 refine L_nil ?_
 refine T_block ?_
 refine T_loop (T := Nat × List Nat × List Nat) (fun ⟨k, O, R⟩ => k ≤ n) (fun ⟨k, O, R⟩ => [(0, (.func (.yield l) #[] #[])), (5, (.slice A n c)), (6, (.int .i64 ((n : Nat) : Int))), (7, (.int .i64 ((k : Nat) : Int)))]) (fun ⟨k, O, R⟩ => [.inv W.heap.size O R (J k O R), .rd (some ⟨g1, 0, none⟩) 1 1 1 [(.slice A n c)], .rd A 1 n c (xs.map b64)]) (fun ⟨k, O, R⟩ => n - k) (0, O, R) pN (sc rfl (sc rfl (sc rfl (sc rfl sn)))) [0, 1, 2] ⟨by decide, rfl⟩ ?_
 rintro ⟨k, O, R⟩ hp
 have hp : k ≤ n := hp
 refine lE [(0, (.func (.yield l) #[] #[])), (5, (.slice A n c)), (6, (.int .i64 ((n : Nat) : Int))), (7, (.int .i64 ((k : Nat) : Int)))] ?_
 refine lH [0, 1, 2] [.inv W.heap.size O R (J k O R), .rd (some ⟨g1, 0, none⟩) 1 1 1 [(.slice A n c)], .rd A 1 n c (xs.map b64)] ?_
 refine lT ?_
 refine lO (pr_cmp (bo := .lss) (nc_lt (a := k) (b := n)) rfl rfl rfl rfl) ?_
 refine L_nil ?_
 refine T_seq ?_
 refine T_cond (decide (k < n)) rfl (fun hc_1 => ?_) (fun hc_1 => ?_)
 ·have hc_1 := of_decide_eq_true hc_1
  refine T_skip ?_
  refine T_seq ?_
  refine T_block ?_
  refine lT ?_
  refine lM ?_
  refine lO (pr_ixs1 (j := k) (src_none (src_rd 2 rfl)) sd Tryz.underlying77 kr rfl rfl rfl) ?_
  refine lQ (ld_src (m := k) (src_rd 2 rfl) (get64 sd) Tryz.underlying23 rfl rfl rfl) ?_
  refine lS ?_
  refine lS ?_
  refine L_nil ?_
  refine T_seq ?_
  refine T_regI ?_
  refine LI_opP hF rfl rfl (op_pr (pr_move rfl rfl) rfl rfl ?_)
  refine LI_opP hF rfl rfl (op_pr (pr_move rfl rfl) rfl rfl ?_)
  refine LI_opP hF rfl rfl (op_pr (pr_move rfl rfl) rfl rfl ?_)
  refine LI_op rfl (op_yield (k := k) () hy sd hsJ hsX 0 rfl [] rfl rfl rfl rfl rfl rfl rfl rfl rfl (fun _ => trivial) (fun O2 R3 => ?_) (fun O4 R5 => ?_))
  ·refine LI_opP hF rfl rfl (op_pr (pr_un (v := .bool false) rfl rfl rfl) rfl rfl ?_)
   refine LI_nil ?_
   refine T_cond_f rfl ?_
   refine T_skip ?_
   refine lR ?_
   refine lO (pr_add (na_i64 (a := k) (b := 1) sd) rfl rfl rfl) ?_
   refine lM ?_
   refine L_nil ?_
   exact T_again (k + 1, O2, R3) pN pN (sc rfl (sc rfl (sc rfl (sc rfl sn)))) [0, 1, 2] ⟨by decide, rfl⟩
  refine LI_opP hF rfl rfl (op_pr (pr_un (v := .bool true) rfl rfl rfl) rfl rfl ?_)
  refine LI_nil ?_
  refine T_cond_t rfl ?_
  refine T_ret ?_
  exact T_finX rfl rfl 0 rfl
 have hc_1 := of_decide_eq_false hc_1
 refine T_exit rfl ?_
 obtain rfl : k = n := by omega
 exact T_finJ rfl rfl 0 rfl
set_option maxHeartbeats 4000000 in
theorem all64_f (A : Option Addr) (n : Nat) (c : Nat) (w : World) (hO : HOK [] w)  : Calls Tryz.prog 49 [(.slice A n c)].toArray w (Ret (T := Nat) [] w (fun g1 => True) (fun g1 => (.func (.func 70) #[] [(.pointer (some ⟨g1, 0, none⟩))].toArray)) (fun g1 => [.old (some ⟨g1, 0, none⟩) 1 1 1 [(.slice A n c)]])) := by
 refine enter (c := _) Tryz.func49 rfl [] _ [] (by rw [Tryz.ntmps49]; rfl) (own_rds hO rfl) ?_
 rw [Tryz.ntmps49]
 refine lE [(0, (.slice A n c))] ?_
 refine lH [] [] ?_
 refine lT ?_
 refine L_op rfl (op_box (zs := [(.slice A n c)]) rfl rfl rfl rfl rfl (fun g1 => ?_))
 refine lS ?_
 refine lN ?_
 refine lO (pr_mkfn (us := []) (vs := [(.pointer (some ⟨g1, 0, none⟩))]) rfl rfl rfl) ?_
 refine lS ?_
 refine L_nil ?_
 refine T_ret ?_
 refine T_oldb 0 (zs := [(.slice A n c)]) 0 1 1 1 rfl rfl rfl sd sd ?_
 exact T_fin g1 qN (res1 rfl rfl) [0] ⟨by decide, rfl⟩ rfl
set_option maxHeartbeats 4000000 in
theorem bit_f (d : Bool) (w : World) (hO : HOK [] w)  : Calls Tryz.prog 50 [(.bool d)].toArray w (Ret (T := Unit) [] w (fun _ => True) (fun _ => (b64 (bitw d))) (fun _ => [])) := by
 refine enter (c := _) Tryz.func50 rfl [] _ [] (by rw [Tryz.ntmps50]; rfl) (own_rds hO rfl) ?_
 rw [Tryz.ntmps50]
 refine lE [(0, (.bool d))] ?_
 refine lH [] [] ?_
 refine lT ?_
 refine lS ?_
 refine L_nil ?_
 refine T_seq ?_
 refine lT ?_
 refine lM ?_
 refine L_nil ?_
 refine T_cond d rfl (fun hc_1 => ?_) (fun hc_1 => ?_)
 ·refine lT ?_
  refine lS ?_
  refine L_nil ?_
  refine T_ret ?_
  refine T_slot 2 (b64 (1#64)) (b64 (bitw d)) rfl (by rw [show d = true by assumption]; rfl) ?_
  exact T_fin () qN (res1 rfl rfl) [] ⟨by decide, rfl⟩ rfl
 refine T_skip ?_
 refine lT ?_
 refine lS ?_
 refine L_nil ?_
 refine T_ret ?_
 refine T_slot 2 (b64 (0#64)) (b64 (bitw d)) rfl (by rw [show d = false by assumption]; rfl) ?_
 exact T_fin () qN (res1 rfl rfl) [] ⟨by decide, rfl⟩ rfl
set_option maxHeartbeats 4000000 in
theorem dead_f  (w : World) (hO : HOK [] w)  : Calls Tryz.prog 32 [].toArray w (Ret (T := Unit) [] w (fun _ => True) (fun _ => (.agg [(.bool true), (.int .i64 ((0 : Nat) : Int)), (.int .i64 ((0 : Nat) : Int)), (.int .i64 ((0 : Nat) : Int))].toArray)) (fun _ => [])) := by
 refine enter (c := _) Tryz.func32 rfl [] _ [] (by rw [Tryz.ntmps32]; rfl) (own_rds hO rfl) ?_
 rw [Tryz.ntmps32]
 refine lE [] ?_
 refine lH [] [] ?_
 refine lT ?_
 refine L_op rfl (op_alloc (z := .agg [(.bool false), (.int .i64 ((0 : Nat) : Int)), (.int .i64 ((0 : Nat) : Int)), (.int .i64 ((0 : Nat) : Int))].toArray) (zs := [(.bool false), (.int .i64 ((0 : Nat) : Int)), (.int .i64 ((0 : Nat) : Int)), (.int .i64 ((0 : Nat) : Int))]) kr rfl rfl rfl rfl (fun g1 => ?_))
 refine lN ?_
 refine lO (pr_build (qs := [(0, (.bool true))]) (v := .agg [(.bool true), (.int .i64 ((0 : Nat) : Int)), (.int .i64 ((0 : Nat) : Int)), (.int .i64 ((0 : Nat) : Int))].toArray) (fun _ => by kernel_rfl) rfl rfl) ?_
 refine L_op rfl (op_sto (n := 4) (vs := [(.bool true), (.int .i64 ((0 : Nat) : Int)), (.int .i64 ((0 : Nat) : Int)), (.int .i64 ((0 : Nat) : Int))]) 0 rfl rfl kr (by simp [Value.oneCell']) kr kr rfl rfl rfl rfl ?_)
 refine L_nil ?_
 refine T_ret ?_
 exact T_fin () qN (resb 0 rfl rfl rfl Tryz.underlying37 rfl kr) [] ⟨by decide, rfl⟩ rfl
set_option maxHeartbeats 4000000 in
theorem rpack_f (d : Bool) (vk : BitVec 64) (vv : BitVec 64) (vs : BitVec 64) (w : World) (hO : HOK [] w)  : Calls Tryz.prog 31 [(.agg [(.bool d), (.int .i64 (i64 vk)), (.int .i64 (i64 vv)), (.int .i64 (i64 vs))].toArray)].toArray w (Ret (T := Unit) [] w (fun _ => True) (fun _ => (.agg ((rpk (Rc.mk d vk vv vs)).map b8).toArray)) (fun _ => [])) := by
 have hrl := rpk_len (Rc.mk d vk vv vs)
 have hF : Wid Fence.wide := wid_wide
 refine enter_m (c := _) Tryz.func31 rfl [] _ [] (by rw [Tryz.ntmps31]; rfl) (own_rds hO rfl) ?_
 rw [Tryz.ntmps31]
 refine lE [(0, (.agg [(.bool d), (.int .i64 (i64 vk)), (.int .i64 (i64 vv)), (.int .i64 (i64 vs))].toArray))] ?_
 refine lH [] [] ?_
 refine lT ?_
 refine L_op rfl (op_box (zs := [(.bool d), (.int .i64 (i64 vk)), (.int .i64 (i64 vv)), (.int .i64 (i64 vs))]) rfl rfl rfl rfl rfl (fun g1 => ?_))
 refine L_op rfl (op_alloc (z := .agg ((List.replicate 32 0#8).map b8).toArray) (zs := ((List.replicate 32 0#8).map b8)) kr rfl rfl rfl rfl (fun g2 => ?_))
 refine L_nil ?_
 refine T_seq ?_
 refine lT ?_
 refine lO (pr_fa (m := 0) (m' := 0) (z := 0) (by rfl) Tryz.underlying37 rfl kr rfl rfl) ?_
 refine lQ (ld_blk 1 rfl rfl Tryz.underlying4 rfl rfl rfl) ?_
 refine L_nil ?_
 refine T_cond d rfl (fun hc_3 => ?_) (fun hc_3 => ?_)
 ·refine lR ?_
  refine L_op rfl (op_cn (fun w hw => dead_f  w (hok_nil w) ) (enters_of Tryz.func32 kr rfl) rfl rfl rfl rfl rfl (fun t4 q5 => ?_))
  refine L_op rfl (op_sto (n := 4) (vs := [(.bool true), (.int .i64 ((0 : Nat) : Int)), (.int .i64 ((0 : Nat) : Int)), (.int .i64 ((0 : Nat) : Int))]) 1 rfl rfl kr (by simp [Value.oneCell']) kr kr rfl rfl rfl rfl ?_)
  refine lN ?_
  refine L_op rfl (op_alloc (z := (.slice none 0 0)) (zs := [(.slice none 0 0)]) kr rfl rfl rfl rfl (fun g6 => ?_))
  refine L_nil ?_
  refine T_seq ?_
  refine T_seq ?_
  refine T_regD [.blk g6 27 [(.slice none 0 0)], .blk g1 37 [(.bool true), (.int .i64 ((0 : Nat) : Int)), (.int .i64 ((0 : Nat) : Int)), (.int .i64 ((0 : Nat) : Int))], .blk g2 22 ((List.replicate 32 0#8).map b8)] 14 14 #[false, false, false, false, false, false, false, false, false, false, false, false, false, false] hF kr kr ?_
  refine D_pure (i := 0) [0, 1, 2] rfl kr rfl (pr_fa (m := 0) (m' := 0) (z := 0) (by rfl) Tryz.underlying37 rfl kr rfl rfl) (.inr rfl) rfl rfl ?_
  refine D_pure (i := 3) [0, 1, 2] rfl kr rfl (pr_fa (m := 0) (m' := 1) (z := 0) (by rfl) Tryz.underlying37 rfl kr rfl rfl) (.inr rfl) rfl rfl ?_
  refine D_pure (i := 6) [0, 1, 2] rfl kr rfl (pr_fa (m := 0) (m' := 2) (z := 0) (by rfl) Tryz.underlying37 rfl kr rfl rfl) (.inr rfl) rfl rfl ?_
  refine D_pure (i := 9) [0, 1, 2] rfl kr rfl (pr_fa (m := 0) (m' := 3) (z := 0) (by rfl) Tryz.underlying37 rfl kr rfl rfl) (.inr rfl) rfl rfl ?_
  refine D_take (i := 1) [0, 1, 2] rfl kr rfl (ld_blk 1 rfl rfl Tryz.underlying4 rfl rfl rfl) rfl rfl rfl ?_
  refine D_take (i := 4) [0, 1, 2] rfl kr rfl (ld_blk 1 rfl rfl Tryz.underlying2 rfl rfl rfl) rfl rfl rfl ?_
  refine D_pure (i := 5) [0, 1, 2] rfl kr rfl (pr_cv (ni_u64 (a := 0) sd) Tryz.underlying2 Tryz.underlying23 rfl rfl) (.inr rfl) rfl rfl ?_
  refine D_take (i := 7) [0, 1, 2] rfl kr rfl (ld_blk 1 rfl rfl Tryz.underlying2 rfl rfl rfl) rfl rfl rfl ?_
  refine D_pure (i := 8) [0, 1, 2] rfl kr rfl (pr_cv (ni_u64 (a := 0) sd) Tryz.underlying2 Tryz.underlying23 rfl rfl) (.inr rfl) rfl rfl ?_
  refine D_take (i := 10) [0, 1, 2] rfl kr rfl (ld_blk 1 rfl rfl Tryz.underlying2 rfl rfl rfl) rfl rfl rfl ?_
  refine D_pure (i := 11) [0, 1, 2] rfl kr rfl (pr_cv (ni_u64 (a := 0) sd) Tryz.underlying2 Tryz.underlying23 rfl rfl) (.inr rfl) rfl rfl ?_
  refine D_one 2 _ rfl kr rfl (op_cn (fun w hw => bit_f true w (hok_nil w) ) (enters_of Tryz.func50 kr rfl) rfl rfl rfl rfl rfl (fun t7 q8 => ?_))
  refine D_on [0, 1, 2] rfl ?_
  refine D_one 12 _ rfl kr rfl (op_bslice (e := 23) (zs := [(b64 (bitw true)), (.int .u64 ((0 : Nat) : Int)), (.int .u64 ((0 : Nat) : Int)), (.int .u64 ((0 : Nat) : Int))]) (qs := [(0, (b64 (bitw true))), (1, (.int .u64 ((0 : Nat) : Int))), (2, (.int .u64 ((0 : Nat) : Int))), (3, (.int .u64 ((0 : Nat) : Int)))]) (fun _ => by kernel_rfl) rfl rfl rfl rfl (fun g9 => ?_))
  refine D_on [1, 2, 3] rfl ?_
  refine D_one 13 _ rfl kr rfl (op_cn (fun w hw => all64_f (some ⟨g9, 0, none⟩) 4 4 w (hok_nil w) ) (enters_of Tryz.func49 kr rfl) rfl rfl rfl rfl rfl (fun t10 q11 => ?_))
  obtain ⟨g1_12, eg1_12⟩ : ∃ x, x = t10 := ⟨_, rfl⟩
  subst eg1_12
  refine D_on [2, 3, 4] rfl ?_
  refine D_done kr ?_
  refine T_block ?_
  refine T_tord 0 rfl ?_
  refine T_oldb 1 (zs := ([(bitw true), 0#64, 0#64, 0#64].map b64)) 0 1 4 4 rfl sd (by rfl) sd sd ?_
  refine T_tord 0 rfl ?_
  refine T_nilrow 5 1 ?_
  refine T_as 0 _ (.row (.slice none (8 * 0) 0) 5 1 (8 * 0) ((eights (List.take 0 [(bitw true), 0#64, 0#64, 0#64])).map b8)) rfl (by rfl) ?_
  refine T_as 3 _ (.blk g6 27 [(.slice none (8 * 0) 0)]) rfl (by rfl) ?_
  refine T_range (Θ := Unit) (T := Option Addr × Nat) (Tx := Unit) (cap := [(.pointer (some ⟨g1_12, 0, none⟩))]) (ps := [23, 24]) (all64_seq [(bitw true), 0#64, 0#64, 0#64] (some ⟨g9, 0, none⟩) 4 4 g1_12 sd sd) rfl (enters_of Tryz.func70 kr rfl) (fun k ⟨A1, c1⟩ => k ≤ 4) (fun k ⟨A1, c1⟩ => [.row (.slice A1 (8 * k) c1) 5 1 (8 * k) ((eights (List.take k [(bitw true), 0#64, 0#64, 0#64])).map b8), .rd (some ⟨g1_12, 0, none⟩) 1 1 1 [(.slice (some ⟨g9, 0, none⟩) 4 4)], .blk g6 27 [(.slice A1 (8 * k) c1)], .blk g1 37 [(.bool true), (.int .i64 ((0 : Nat) : Int)), (.int .i64 ((0 : Nat) : Int)), (.int .i64 ((0 : Nat) : Int))], .blk g2 22 ((List.replicate 32 0#8).map b8)]) (fun _ => False) (fun _ => []) 0 (none, 0) oM [1, 3, 0, 4, 5] ⟨by decide, rfl⟩ [3, 2] rfl rfl (fun _ _ => rfl) (fun _ => rfl) (fun _ _ => rfl) (fun _ _ => rfl) rfl (fun _ => trivial) ?_ ?_ ?_
  ·intro C2 w2 lo2 rs2 l D m k t th rc hrec hk hp
   obtain ⟨A1, c1⟩ := t
   have hp : k ≤ 4 := hp
   have hk : k < 4 := hk
   have hF : Wid (Fence.wide.inRound l) := wid_round l
   refine lE [(3, (.pointer (some ⟨g6, 0, none⟩))), (23, (.int .i64 ((k : Nat) : Int))), (24, (b64 (ath [(bitw true), 0#64, 0#64, 0#64] k)))] ?_
   refine lH [0, 1, 2, 3, 4, 5, 6] [.obj l (.loop rc), .obj D (.deferred (some [])), .row (.slice A1 (8 * k) c1) 5 1 (8 * k) ((eights (List.take k [(bitw true), 0#64, 0#64, 0#64])).map b8), .rd (some ⟨g1_12, 0, none⟩) 1 1 1 [(.slice (some ⟨g9, 0, none⟩) 4 4)], .blk g6 27 [(.slice A1 (8 * k) c1)], .blk g1 37 [(.bool true), (.int .i64 ((0 : Nat) : Int)), (.int .i64 ((0 : Nat) : Int)), (.int .i64 ((0 : Nat) : Int))], .blk g2 22 ((List.replicate 32 0#8).map b8)] ?_
   refine lR ?_
   refine lS ?_
   refine L_nil ?_
   refine T_begun 0 rfl hrec ?_
   refine T_block ?_
   refine lR ?_
   refine lQ (ld_blk 4 rfl rfl Tryz.underlying27 rfl rfl rfl) ?_
   refine lM ?_
   refine L_op rfl (op_c1 2 rfl (fun w hw => putLow_f (eights (List.take k [(bitw true), 0#64, 0#64, 0#64])) (ath [(bitw true), 0#64, 0#64, 0#64] k) 8 A1 (8 * k) c1 w (hw _ (List.mem_of_getElem? (i := 2) rfl)) sd sd) (enters_of Tryz.func51 kr rfl) rfl rfl rfl rfl rfl (fun t13 q14 => ?_))
   obtain ⟨B15, d16⟩ := t13
   refine L_op rfl (op_store (vs := [(.slice B15 ((8 * k) + 8) d16)]) (cs' := [(.slice B15 ((8 * k) + 8) d16)]) 4 rfl rfl kr (one_one rfl) (by simp) rfl rfl rfl rfl rfl ?_)
   refine L_nil ?_
   refine T_as 1 _ (.row (.slice B15 (8 * (k + 1)) d16) 5 1 (8 * (k + 1)) ((eights (List.take (k + 1) [(bitw true), 0#64, 0#64, 0#64])).map b8)) rfl (by rw [eights_take _ _ (by simp; omega)]; rfl) ?_
   refine T_as 1 _ (.blk g6 27 [(.slice B15 (8 * (k + 1)) d16)]) rfl (by congr 1) ?_
   exact T_on (B15, d16) oM [2, 3, 1, 4, 0, 5, 6] ⟨by decide, rfl⟩
  ·intro D t hp
   obtain ⟨A1, c1⟩ := t
   have hp : 4 ≤ 4 := hp
   have hel : (eights (List.take 4 [(bitw true), 0#64, 0#64, 0#64])).length = 32 := by rw [eights_len]; rfl
   refine lE [(2, (.pointer (some ⟨g2, 0, none⟩))), (3, (.pointer (some ⟨g6, 0, none⟩)))] ?_
   refine lH [0, 1, 2, 3, 4, 5] [.obj D (.deferred (some [])), .row (.slice A1 (8 * 4) c1) 5 1 (8 * 4) ((eights (List.take 4 [(bitw true), 0#64, 0#64, 0#64])).map b8), .rd (some ⟨g1_12, 0, none⟩) 1 1 1 [(.slice (some ⟨g9, 0, none⟩) 4 4)], .blk g6 27 [(.slice A1 (8 * 4) c1)], .blk g1 37 [(.bool true), (.int .i64 ((0 : Nat) : Int)), (.int .i64 ((0 : Nat) : Int)), (.int .i64 ((0 : Nat) : Int))], .blk g2 22 ((List.replicate 32 0#8).map b8)] ?_
   refine lT ?_
   refine lQ (ld_blk 3 rfl rfl Tryz.underlying27 rfl rfl rfl) ?_
   refine lO (pr_s2a sd Tryz.underlying22 rfl rfl) ?_
   refine lQ (ld_aggs (ds := ((eights (List.take 4 [(bitw true), 0#64, 0#64, 0#64])).map b8)) (src_row 1 rfl) (List.take_length) (by have h1 : (((eights (List.take 4 [(bitw true), 0#64, 0#64, 0#64])).map b8)).length = 32 := sd; omega) Tryz.underlying22 rfl (fwz (n := 32) kr sd) rfl rfl) ?_
   refine L_op rfl (op_sto (n := 32) (vs := ((eights (List.take 4 [(bitw true), 0#64, 0#64, 0#64])).map b8)) 5 rfl rfl kr (all8_one _) kr sd rfl rfl rfl rfl ?_)
   refine L_nil ?_
   refine T_ret ?_
   refine T_as 0 _ (.blk g2 22 ((rpk (Rc.mk d vk vv vs)).map b8)) rfl (by rw [rpk_t aS]; rfl) ?_
   exact T_finM 1 rfl () qN (resb 0 rfl rfl rfl Tryz.underlying22 rfl (fwz (n := 32) kr sd)) [] ⟨by decide, rfl⟩ rfl
  exact fun D t hq => hq.elim
 refine T_skip ?_
 refine lT ?_
 refine L_op rfl (op_alloc (z := (.slice none 0 0)) (zs := [(.slice none 0 0)]) kr rfl rfl rfl rfl (fun g17 => ?_))
 refine L_nil ?_
 refine T_seq ?_
 refine T_seq ?_
 refine T_regD [.blk g17 27 [(.slice none 0 0)], .blk g2 22 ((List.replicate 32 0#8).map b8), .blk g1 37 [(.bool d), (.int .i64 (i64 vk)), (.int .i64 (i64 vv)), (.int .i64 (i64 vs))]] 14 14 #[false, false, false, false, false, false, false, false, false, false, false, false, false, false] hF kr kr ?_
 refine D_pure (i := 0) [0, 1, 2] rfl kr rfl (pr_fa (m := 0) (m' := 0) (z := 0) (by rfl) Tryz.underlying37 rfl kr rfl rfl) (.inr rfl) rfl rfl ?_
 refine D_pure (i := 3) [0, 1, 2] rfl kr rfl (pr_fa (m := 0) (m' := 1) (z := 0) (by rfl) Tryz.underlying37 rfl kr rfl rfl) (.inr rfl) rfl rfl ?_
 refine D_pure (i := 6) [0, 1, 2] rfl kr rfl (pr_fa (m := 0) (m' := 2) (z := 0) (by rfl) Tryz.underlying37 rfl kr rfl rfl) (.inr rfl) rfl rfl ?_
 refine D_pure (i := 9) [0, 1, 2] rfl kr rfl (pr_fa (m := 0) (m' := 3) (z := 0) (by rfl) Tryz.underlying37 rfl kr rfl rfl) (.inr rfl) rfl rfl ?_
 refine D_take (i := 1) [0, 1, 2] rfl kr rfl (ld_blk 2 rfl rfl Tryz.underlying4 rfl rfl rfl) rfl rfl rfl ?_
 refine D_take (i := 4) [0, 1, 2] rfl kr rfl (ld_blk 2 rfl rfl Tryz.underlying2 rfl rfl rfl) rfl rfl rfl ?_
 refine D_pure (i := 5) [0, 1, 2] rfl kr rfl (pr_cv (zc_i64u vk) Tryz.underlying2 Tryz.underlying23 rfl rfl) (.inr rfl) rfl rfl ?_
 refine D_take (i := 7) [0, 1, 2] rfl kr rfl (ld_blk 2 rfl rfl Tryz.underlying2 rfl rfl rfl) rfl rfl rfl ?_
 refine D_pure (i := 8) [0, 1, 2] rfl kr rfl (pr_cv (zc_i64u vv) Tryz.underlying2 Tryz.underlying23 rfl rfl) (.inr rfl) rfl rfl ?_
 refine D_take (i := 10) [0, 1, 2] rfl kr rfl (ld_blk 2 rfl rfl Tryz.underlying2 rfl rfl rfl) rfl rfl rfl ?_
 refine D_pure (i := 11) [0, 1, 2] rfl kr rfl (pr_cv (zc_i64u vs) Tryz.underlying2 Tryz.underlying23 rfl rfl) (.inr rfl) rfl rfl ?_
 refine D_one 2 _ rfl kr rfl (op_cn (fun w hw => bit_f d w (hok_nil w) ) (enters_of Tryz.func50 kr rfl) rfl rfl rfl rfl rfl (fun t18 q19 => ?_))
 refine D_on [0, 1, 2] rfl ?_
 refine D_one 12 _ rfl kr rfl (op_bslice (e := 23) (zs := [(b64 (bitw d)), (b64 vk), (b64 vv), (b64 vs)]) (qs := [(0, (b64 (bitw d))), (1, (b64 vk)), (2, (b64 vv)), (3, (b64 vs))]) (fun _ => by kernel_rfl) rfl rfl rfl rfl (fun g20 => ?_))
 refine D_on [1, 2, 3] rfl ?_
 refine D_one 13 _ rfl kr rfl (op_cn (fun w hw => all64_f (some ⟨g20, 0, none⟩) 4 4 w (hok_nil w) ) (enters_of Tryz.func49 kr rfl) rfl rfl rfl rfl rfl (fun t21 q22 => ?_))
 obtain ⟨g1_23, eg1_23⟩ : ∃ x, x = t21 := ⟨_, rfl⟩
 subst eg1_23
 refine D_on [2, 3, 4] rfl ?_
 refine D_done kr ?_
 refine T_block ?_
 refine T_tord 0 rfl ?_
 refine T_oldb 1 (zs := ([(bitw d), vk, vv, vs].map b64)) 0 1 4 4 rfl sd (by rfl) sd sd ?_
 refine T_tord 0 rfl ?_
 refine T_nilrow 5 1 ?_
 refine T_as 0 _ (.row (.slice none (8 * 0) 0) 5 1 (8 * 0) ((eights (List.take 0 [(bitw d), vk, vv, vs])).map b8)) rfl (by rfl) ?_
 refine T_as 3 _ (.blk g17 27 [(.slice none (8 * 0) 0)]) rfl (by rfl) ?_
 refine T_range (Θ := Unit) (T := Option Addr × Nat) (Tx := Unit) (cap := [(.pointer (some ⟨g1_23, 0, none⟩))]) (ps := [23, 24]) (all64_seq [(bitw d), vk, vv, vs] (some ⟨g20, 0, none⟩) 4 4 g1_23 sd sd) rfl (enters_of Tryz.func70 kr rfl) (fun k ⟨A1, c1⟩ => k ≤ 4) (fun k ⟨A1, c1⟩ => [.row (.slice A1 (8 * k) c1) 5 1 (8 * k) ((eights (List.take k [(bitw d), vk, vv, vs])).map b8), .rd (some ⟨g1_23, 0, none⟩) 1 1 1 [(.slice (some ⟨g20, 0, none⟩) 4 4)], .blk g17 27 [(.slice A1 (8 * k) c1)], .blk g2 22 ((List.replicate 32 0#8).map b8), .blk g1 37 [(.bool d), (.int .i64 (i64 vk)), (.int .i64 (i64 vv)), (.int .i64 (i64 vs))]]) (fun _ => False) (fun _ => []) 0 (none, 0) oM [1, 3, 0, 4, 5] ⟨by decide, rfl⟩ [3, 2] rfl rfl (fun _ _ => rfl) (fun _ => rfl) (fun _ _ => rfl) (fun _ _ => rfl) rfl (fun _ => trivial) ?_ ?_ ?_
 ·intro C2 w2 lo2 rs2 l D m k t th rc hrec hk hp
  obtain ⟨A1, c1⟩ := t
  have hp : k ≤ 4 := hp
  have hk : k < 4 := hk
  have hF : Wid (Fence.wide.inRound l) := wid_round l
  refine lE [(3, (.pointer (some ⟨g17, 0, none⟩))), (23, (.int .i64 ((k : Nat) : Int))), (24, (b64 (ath [(bitw d), vk, vv, vs] k)))] ?_
  refine lH [0, 1, 2, 3, 4, 5, 6] [.obj l (.loop rc), .obj D (.deferred (some [])), .row (.slice A1 (8 * k) c1) 5 1 (8 * k) ((eights (List.take k [(bitw d), vk, vv, vs])).map b8), .rd (some ⟨g1_23, 0, none⟩) 1 1 1 [(.slice (some ⟨g20, 0, none⟩) 4 4)], .blk g17 27 [(.slice A1 (8 * k) c1)], .blk g2 22 ((List.replicate 32 0#8).map b8), .blk g1 37 [(.bool d), (.int .i64 (i64 vk)), (.int .i64 (i64 vv)), (.int .i64 (i64 vs))]] ?_
  refine lR ?_
  refine lS ?_
  refine L_nil ?_
  refine T_begun 0 rfl hrec ?_
  refine T_block ?_
  refine lR ?_
  refine lQ (ld_blk 4 rfl rfl Tryz.underlying27 rfl rfl rfl) ?_
  refine lM ?_
  refine L_op rfl (op_c1 2 rfl (fun w hw => putLow_f (eights (List.take k [(bitw d), vk, vv, vs])) (ath [(bitw d), vk, vv, vs] k) 8 A1 (8 * k) c1 w (hw _ (List.mem_of_getElem? (i := 2) rfl)) sd sd) (enters_of Tryz.func51 kr rfl) rfl rfl rfl rfl rfl (fun t24 q25 => ?_))
  obtain ⟨B26, d27⟩ := t24
  refine L_op rfl (op_store (vs := [(.slice B26 ((8 * k) + 8) d27)]) (cs' := [(.slice B26 ((8 * k) + 8) d27)]) 4 rfl rfl kr (one_one rfl) (by simp) rfl rfl rfl rfl rfl ?_)
  refine L_nil ?_
  refine T_as 1 _ (.row (.slice B26 (8 * (k + 1)) d27) 5 1 (8 * (k + 1)) ((eights (List.take (k + 1) [(bitw d), vk, vv, vs])).map b8)) rfl (by rw [eights_take _ _ (by simp; omega)]; rfl) ?_
  refine T_as 1 _ (.blk g17 27 [(.slice B26 (8 * (k + 1)) d27)]) rfl (by congr 1) ?_
  exact T_on (B26, d27) oM [2, 3, 1, 4, 0, 5, 6] ⟨by decide, rfl⟩
 ·intro D t hp
  obtain ⟨A1, c1⟩ := t
  have hp : 4 ≤ 4 := hp
  have hel : (eights (List.take 4 [(bitw d), vk, vv, vs])).length = 32 := by rw [eights_len]; rfl
  refine lE [(2, (.pointer (some ⟨g2, 0, none⟩))), (3, (.pointer (some ⟨g17, 0, none⟩)))] ?_
  refine lH [0, 1, 2, 3, 4, 5] [.obj D (.deferred (some [])), .row (.slice A1 (8 * 4) c1) 5 1 (8 * 4) ((eights (List.take 4 [(bitw d), vk, vv, vs])).map b8), .rd (some ⟨g1_23, 0, none⟩) 1 1 1 [(.slice (some ⟨g20, 0, none⟩) 4 4)], .blk g17 27 [(.slice A1 (8 * 4) c1)], .blk g2 22 ((List.replicate 32 0#8).map b8), .blk g1 37 [(.bool d), (.int .i64 (i64 vk)), (.int .i64 (i64 vv)), (.int .i64 (i64 vs))]] ?_
  refine lT ?_
  refine lQ (ld_blk 3 rfl rfl Tryz.underlying27 rfl rfl rfl) ?_
  refine lO (pr_s2a sd Tryz.underlying22 rfl rfl) ?_
  refine lQ (ld_aggs (ds := ((eights (List.take 4 [(bitw d), vk, vv, vs])).map b8)) (src_row 1 rfl) (List.take_length) (by have h1 : (((eights (List.take 4 [(bitw d), vk, vv, vs])).map b8)).length = 32 := sd; omega) Tryz.underlying22 rfl (fwz (n := 32) kr sd) rfl rfl) ?_
  refine L_op rfl (op_sto (n := 32) (vs := ((eights (List.take 4 [(bitw d), vk, vv, vs])).map b8)) 4 rfl rfl kr (all8_one _) kr sd rfl rfl rfl rfl ?_)
  refine L_nil ?_
  refine T_ret ?_
  refine T_as 0 _ (.blk g2 22 ((rpk (Rc.mk d vk vv vs)).map b8)) rfl (by rw [rpk_f aS, show d = false by assumption]; rfl) ?_
  exact T_finM 1 rfl () qN (resb 0 rfl rfl rfl Tryz.underlying22 rfl (fwz (n := 32) kr sd)) [] ⟨by decide, rfl⟩ rfl
 exact fun D t hq => hq.elim
end Go.Proofs.YtlplpmkdebemnaaGreat
