/- A walk by facts: a range over a function whose body may return; results that lie in two cells. No conditions. -/
import Derived.Test.YtlplpmkdebemnaaFwQ
namespace Go.Proofs.Ytlplpmkdebemnaa.Fw
set_option linter.unusedVariables false
set_option linter.unusedSimpArgs false
open Go.RowKit Bv
/-- **A range over a function whose body may return.** -/
theorem T_rangeR {E : Bool} {Θ T Tx : Type} {n : Nat} {P : Program} {N : Nat} {C : List Nat} {w0 : World} {lo : Nat} {rs : Nat → Prop} {ds : List Deferred} {s : List (Nat × Value)} {h : List HA} {nrm ret : Jd} {ex : List (Nat × Jd)} {g : Operand} {ps : List Nat} {assign body : Code} {gf : FuncId} {cap : List Value} {rds : List HA} {nv : Nat} {xs : Nat → Θ → List Value} {hd : Nat → Θ → List HA}
    (hseq : SeqX E P gf cap rds nv xs hd) (hg : ev s g = some (.func (.func gf) #[] cap.toArray)) (hen : Go.Proofs.Enters P gf)
    (p : Nat → T → Prop) (η : Nat → T → List HA) (q : Tx → Prop) (ηx : Tx → List HA) (t0 : T) (h0 : p 0 t0) (is : List Nat) (hi : Pick h is (η 0 t0)) (js : List Nat) (hj : js.map (fun j => (h[j]?).map HA.asrd) = rds.map some) (hjr : js.all (fun j => match h[j]? with | some x => x.asrd.bs.isNone && x.ids.isEmpty | none => false) = true)
    (hηn' : ∀ k t, (η k t).all HA.plainB = true) (hηx' : ∀ t, (ηx t).all HA.plainB = true) (hdr : ∀ k θ, (hd k θ).all rdB = true) (hps : ∀ k θ, (xs k θ).length = ps.length) (hpN : ps.all (fun p => Nat.blt p N) = true)
    (hrs : ∀ r, rs r) (hround : ∀ (C2 : List Nat) (w2 : World) (lo2 : Nat) (rs2 : Nat → Prop) (l D m k : Nat) (t : T) (θ : Θ) (rec : Loop), rec.state = .ready → k < nv → p k t →
      Tr ⟨N, C2, w2, lo2, rs2, []⟩ (slotsOf ps (xs k θ) ++ s) (hd k θ ++ (.obj l (.loop rec) :: .obj D (.deferred (some [])) :: η k t))
        (Wp (Fence.wide.inRound l) m P ⟨Begun l m P ⟨N, C2, w2, lo2, rs2, []⟩ rec ⟨RoundOn l D ⟨N, C2, w2, lo2, rs2, []⟩ rec (p (k + 1)) (η (k + 1)), RoundOn l D ⟨N, C2, w2, lo2, rs2, []⟩ rec q ηx, []⟩ body, fun _ _ => False, []⟩ assign))
    (hdone : ∀ (D : Nat) (t : T), p nv t → Tr ⟨N, C, w0, lo, rs, { target := .collected D, args := #[] } :: ds⟩ s (.obj D (.deferred (some [])) :: η nv t) nrm)
    (hstop : ∀ (D : Nat) (t : Tx), q t → Tr ⟨N, C, w0, lo, rs, { target := .collected D, args := #[] } :: ds⟩ s (.obj D (.deferred (some [])) :: ηx t) (Wp Fence.wide n P ⟨nrm, ret, ex⟩ (.ret)))
    (hE : E = true → ∀ t, ¬ p nv t := by intro h; cases h) :
    Tr ⟨N, C, w0, lo, rs, ds⟩ s h (Wp Fence.wide n P ⟨nrm, ret, ex⟩ (.rangeFunc g ps.toArray assign body)) := fun a w st => by
  refine wpIn_rangeFunc fun fn hfn => ?_
  rw [show Fence.wide.round = none from rfl]
  have hηn : ∀ k t, ∀ x ∈ η k t, x.bs = none := fun k t x hx => plain_bs (List.all_eq_true.1 (hηn' k t) x hx)
  have hηx : ∀ t, ∀ x ∈ ηx t, x.bs = none := fun t x hx => plain_bs (List.all_eq_true.1 (hηx' t) x hx)
  let R0 : LoopState → Option Code → Loop := fun st pe => { state := st, pending := pe, fn, tmps := a.tmps, params := ps.toArray, assign, body, defers := w.heap.size }
  let X1 : Cx := ⟨N, C, w0, lo, rs, []⟩
  let a1 : Act := { tmps := a.tmps, defers := [] }
  have stA : ∀ {h' : List HA} {w' : World}, St ⟨N, C, w0, lo, rs, ds⟩ s h' a w' → St X1 s h' a1 w' := fun st => ⟨st.sz, rfl, st.sl, st.kp, st.ok, st.ll, st.fr, st.nd, st.dj, st.iv, st.ib, st.rk⟩
  let lI := w.heap.size + 1
  let D := w.heap.size
  let W1 := (w.alloc (.deferred (some []))).alloc (.loop (R0 .ready none))
  let hp := fun (r : Loop) (l : List HA) => HA.obj lI (.loop r) :: .obj D (.deferred (some [])) :: l
  have st0 : St X1 s (hp (R0 .ready none) (η 0 t0)) a1 W1 := by
    have h1 := (stA (st.pick hi)).newobj (.deferred (some []))
    have h2 := h1.newobj (.loop (R0 .ready none))
    rw [show (w.alloc (Obj.deferred (some []))).heap.size = lI from World.size_alloc _ _] at h2
    exact h2
  let J : JJ := fun k O R W => ∃ t, p k t ∧ St X1 s (hp (R0 .ready none) (η k t)) a1 W ∧ O = (hp (R0 .ready none) (η k t)).flatMap HA.ids ∧ R = (hp (R0 .ready none) (η k t)).flatMap HA.rids
  let Jx : JX := fun O R W => ∃ t, q t ∧ St X1 s (hp (R0 .done (some (.ret))) (ηx t)) a1 W ∧ O = (hp (R0 .done (some (.ret))) (ηx t)).flatMap HA.ids ∧ R = (hp (R0 .done (some (.ret))) (ηx t)).flatMap HA.rids
  have hpn : ∀ r l, (∀ x ∈ l, x.bs = none) → ∀ x ∈ hp r l, x.bs = none := by
    intro r l hl x hx
    rcases List.mem_cons.1 hx with rfl | hx
    · rfl
    · rcases List.mem_cons.1 hx with rfl | hx
      · rfl
      · exact hl x hx
  have hW1s : w.heap.size ≤ W1.heap.size := by show w.heap.size ≤ ((w.alloc _).alloc _).heap.size; simp; omega
  have hw0 : w0.heap.size ≤ W1.heap.size := Nat.le_trans st.kp.same.size hW1s
  refine ⟨lI, [{ target := .collected D, args := #[] }], W1, { target := .fn (.func gf) cap.toArray, args := #[.func (.yield lI) #[] #[]] }, W1, gf, (.func (.yield lI) #[] #[] :: cap).toArray, W1, ?_, ?_, fun f' _ => trivial, ?_, fun hh => absurd hh (by simp [Fence.wide]), ?_⟩
  · exact run_enterLoop_outer _ _ _ _ _
  · have hev : a.eval (.const (.func (.yield lI) #[] #[])) = .func (.yield lI) #[] #[] := rfl
    simp only [resolve, rangeCall, st.ag g _ hg]
    simp [Deferred.ofValue, hev]
  · have := hen (#[.func (.yield lI) #[] #[]] ++ cap.toArray) W1
    have e : (#[Value.func (.yield lI) #[] #[]] ++ cap.toArray) = (Value.func (.yield lI) #[] #[] :: cap).toArray := by simp
    rw [e] at this
    simp only [invoke]
    rw [e]; exact this
  · have hlow : ∀ {r : Loop} {l : List HA} {W : World}, St X1 s (hp r l) a1 W → ∀ i ∈ (hp r l).flatMap HA.ids ++ (hp r l).flatMap HA.rids, i < W.heap.size := by
      intro r l W hst i hin
      rcases List.mem_append.1 hin with h1 | h1 <;> obtain ⟨x, hx, hxi⟩ := List.mem_flatMap.1 h1
      · exact HA.lt (hst.ok x hx) i (List.mem_append.2 (.inl hxi))
      · exact HA.lt (hst.ok x hx) i (List.mem_append.2 (.inr hxi))
    have hrW : HOK rds W1 := by
      intro x hx
      have : some x ∈ js.map (fun j => (h[j]?).map HA.asrd) := by rw [hj]; exact List.mem_map.2 ⟨x, hx, rfl⟩
      obtain ⟨j, hjm, hje⟩ := List.mem_map.1 this
      obtain ⟨y, hy, rfl⟩ := Option.map_eq_some_iff.1 hje
      have hyh := List.mem_of_getElem? hy
      have hb := List.all_eq_true.1 hjr j hjm
      simp only [hy, Bool.and_eq_true, Option.isNone_iff_eq_none] at hb
      have hyb : y.bs = none := by have := hb.1; cases y <;> first | rfl | (cases this; done)
      refine asrd_ok (HA.ok_keep (st.ok y hyh) ⟨rfl, rfl, rfl, hW1s⟩ (fun i hin => ?_) (fun B hB => by rw [hyb] at hB; cases hB))
      have hlt := HA.lt (st.ok y hyh) i hin
      show ((w.alloc _).alloc _).heap[i]? = _
      rw [Below.heap_alloc _ _ _ (by simp; omega), Below.heap_alloc _ _ _ hlt]
    have hrO : ∀ x ∈ rds, ∀ r ∈ x.rids, r ∉ (hp (R0 .ready none) (η 0 t0)).flatMap HA.ids := by
      intro x hx r hr hin
      have : some x ∈ js.map (fun j => (h[j]?).map HA.asrd) := by rw [hj]; exact List.mem_map.2 ⟨x, hx, rfl⟩
      obtain ⟨j, hjm, hje⟩ := List.mem_map.1 this
      obtain ⟨y, hy, rfl⟩ := Option.map_eq_some_iff.1 hje
      have hyh := List.mem_of_getElem? hy
      rw [asrd_rids] at hr
      have hlt := HA.lt (st.ok y hyh) r (List.mem_append.2 (.inr hr))
      obtain ⟨z, hz, hzr⟩ := List.mem_flatMap.1 hin
      rcases List.mem_cons.1 hz with rfl | hz
      · simp [HA.ids] at hzr; omega
      · rcases List.mem_cons.1 hz with rfl | hz
        · simp [HA.ids] at hzr; omega
        · have hzh : z ∈ h := by
            have : some z ∈ is.map (h[·]?) := by rw [hi.2]; exact List.mem_map.2 ⟨z, hz, rfl⟩
            obtain ⟨i, _, hi'⟩ := List.mem_map.1 this
            exact List.mem_of_getElem? hi'
          exact st.dj y hyh z hzh r hr hzr
    refine (hseq lI J Jx W1 _ _ (n - 1) hrW hrO ?_ ?_ (hlow st0) ?_ (fun hEt O R W ⟨t, ht, _⟩ => hE hEt t ht) ⟨t0, h0, st0, rfl, rfl⟩).mono ?_
    · rintro k O R W W' ⟨t, ht, hst, rfl, rfl⟩ hs hb hin
      exact ⟨t, ht, hst.stab hw0 (hpn _ _ (hηn k t)) hs hb hin, rfl, rfl⟩
    · rintro O R W W' ⟨t, ht, hst, rfl, rfl⟩ hs hb hin
      exact ⟨t, ht, hst.stab hw0 (hpn _ _ (hηx t)) hs hb hin, rfl, rfl⟩
    · rintro k θ O R Wy m hk ⟨t, ht, hst, rfl, rfl⟩ hdk hdO
      have hlw : Wy.heap[lI]? = some (.loop (R0 .ready none)) := hst.ok _ (List.mem_cons_self ..)
      have hy := run_yield (P := P) (args := (xs k θ).toArray) hlw (by show (xs k θ).toArray.size = ps.toArray.size; simp [hps k θ])
      refine ⟨fn, _, assign, body, hy, roundIn_of_wpIn hfn ?_⟩
      have hzip : ((R0 .ready none).params.zip (xs k θ).toArray).foldl (fun tmps (x : Nat × Value) => tmps.setIfInBounds x.1 x.2) (R0 .ready none).tmps = (ps.zip (xs k θ)).foldl (fun (t : Array Value) (q : Nat × Value) => t.setIfInBounds q.1 q.2) a.tmps := by
        show (ps.toArray.zip (xs k θ).toArray).foldl _ a.tmps = _
        rw [List.zip_toArray]
        simp
      let O := (hp (R0 .ready none) (η k t)).flatMap HA.ids
      let R := (hp (R0 .ready none) (η k t)).flatMap HA.rids
      let rs2 : Nat → Prop := fun r => r ∈ O ∨ r ∈ R ∨ r ∈ (hd k θ).flatMap HA.rids
      let X2 : Cx := ⟨N, O, Wy, Wy.heap.size, rs2, []⟩
      have hOC : ∀ i ∈ O, i ∈ C ∨ lo ≤ i := fun i hi => by
        obtain ⟨x, hx, hxi⟩ := List.mem_flatMap.1 hi
        exact hst.fr x hx i (HA.ids_frs hxi)
      have st2 : St X2 s (hp (R0 .ready none) (η k t)) a1 Wy :=
        ⟨hst.sz, rfl, hst.sl, Keep.refl _ _, hst.ok, ⟨Nat.le_refl _, Nat.le_refl _⟩, fun x hx c hc => ?_, hst.nd, hst.dj, hst.iv, fun x hx B hB => (by rw [hpn _ _ (hηn k t) x hx] at hB; cases hB), ⟨fun c hc => .inl hc, fun x hx r hr => .inl (.inr (.inl (List.mem_flatMap.2 ⟨x, hx, hr⟩)))⟩⟩
      case refine_1 =>
        refine .inl (List.mem_flatMap.2 ⟨x, hx, ?_⟩)
        rcases List.mem_cons.1 hx with rfl | hx
        · exact hc
        · rcases List.mem_cons.1 hx with rfl | hx
          · exact hc
          · rwa [plain_frs (List.all_eq_true.1 (hηn' k t) x hx)] at hc
      have stR : St X2 (slotsOf ps (xs k θ) ++ s) (hd k θ ++ hp (R0 .ready none) (η k t)) { tmps := (ps.zip (xs k θ)).foldl (fun (t : Array Value) (q : Nat × Value) => t.setIfInBounds q.1 q.2) a.tmps, defers := [] } Wy := by
        have h1 := st2.addrd (hd k θ) hdk (hdr k θ) (hpn _ _ (hηn k t)) hdO (fun x hx r hr => .inr (.inr (List.mem_flatMap.2 ⟨x, hx, hr⟩)))
        refine ⟨by rw [foldl_size]; exact hst.sz, rfl, slotsOf_spec ps (xs k θ) a.tmps s ?_ hst.sl, h1.kp, h1.ok, h1.ll, h1.fr, h1.nd, h1.dj, h1.iv, h1.ib, h1.rk⟩
        intro p' hp'
        have := List.all_eq_true.1 hpN p' hp'
        have h3 : p' < N := Nat.le_of_ble_eq_true this
        have h4 : a.tmps.size = N := hst.sz
        omega
      have hw := hround O Wy Wy.heap.size rs2 lI D m k t θ (R0 .ready none) rfl hk ht _ _ stR
      have hw2 : assign.wpIn (Fence.wide.inRound lI) m P (Exit.then (fun a₁ w₁ => ∃ w₂, (Instr.beginRound lI).run P w₁ = .ok () w₂ ∧ body.wpIn (Fence.wide.inRound lI) m P (roundPost P lI (YP J Jx k (hd k θ) O R Wy)) a₁ w₂) (fun _ _ _ => False)) { tmps := (ps.zip (xs k θ)).foldl (fun (t : Array Value) (q : Nat × Value) => t.setIfInBounds q.1 q.2) a.tmps, defers := [] } Wy := by
        refine wpIn_mono hw (fun e a2 w2 hq => ?_)
        cases e with
        | ret => exact hq.elim
        | exit i => obtain ⟨_, hj2, _⟩ := hq; cases hj2
        | goto _ => exact hq.elim
        | panic _ => exact hq.elim
        | outgrown => exact hq.elim
        | normal =>
          obtain ⟨w3, hb3, hbody⟩ := hq
          refine ⟨w3, hb3, wpIn_mono hbody (fun e a4 w4 hq4 => ?_)⟩
          have finish : ∀ (l' : List HA) (jump : Option Code) (r'' : Loop), St X2 [] (hp (R0 .busy none) l') a4 w4 → (r'' = { R0 .busy none with state := if jump.isNone then .ready else .done, pending := jump }) → (∀ x ∈ l', x.bs = none) →
              ∃ w', (Instr.endRound lI jump).run P w4 = .ok (.bool jump.isNone) w' ∧ St X1 s (hp r'' l') a1 w' ∧ (∀ i ∈ (hp r'' l').flatMap HA.ids, i ∈ O ∨ Wy.heap.size ≤ i) ∧ (∀ i ∈ (hp r'' l').flatMap HA.rids, i ∈ O ∨ i ∈ R ∨ i ∈ (hd k θ).flatMap HA.rids ∨ Wy.heap.size ≤ i) ∧ Keep O Wy w' := by
            intro l' jump r'' hst4 hr'' hl'
            have hl4 : w4.heap[lI]? = some (.loop (R0 .busy none)) := hst4.ok _ (List.mem_cons_self ..)
            refine ⟨_, run_endRound jump hl4, ?_⟩
            subst hr''
            have h5 := hst4.putobj (.loop { R0 .busy none with state := if jump.isNone then .ready else .done, pending := jump })
            have hid : ∀ x ∈ hp { R0 .busy none with state := if jump.isNone then .ready else .done, pending := jump } l', ∀ c ∈ x.frs, c ∈ O ∨ Wy.heap.size ≤ c := fun x hx c hc => h5.fr x hx c hc
            refine ⟨⟨hst.sz, rfl, hst.sl, hst.kp.trans h5.kp (fun i hi => (hOC i hi).imp id (fun h => Nat.le_trans st.ll.1 h)), h5.ok, ⟨st.ll.1, Nat.le_trans hst.ll.2 h5.kp.same.size⟩, fun x hx c hc => (hid x hx c hc).elim (fun h => hOC c h) (fun h => .inr (Nat.le_trans hst.ll.2 h)), h5.nd, h5.dj, fun x hx q hq => (by rw [os_of_bs (hpn _ _ hl' x hx)] at hq; cases hq), fun x hx B hB => (by rw [hpn _ _ hl' x hx] at hB; cases hB), ⟨hst.rk.1, fun x hx r hr => .inl (hrs r)⟩⟩, ?_, ?_, h5.kp⟩
            · intro i hi
              obtain ⟨x, hx, hxi⟩ := List.mem_flatMap.1 hi
              exact hid x hx i (HA.ids_frs hxi)
            · intro i hi
              obtain ⟨x, hx, hxi⟩ := List.mem_flatMap.1 hi
              rcases h5.rk.2 x hx i hxi with (h6 | h6 | h6) | h6
              · exact .inl h6
              · exact .inr (.inl h6)
              · exact .inr (.inr (.inl h6))
              · exact .inr (.inr (.inr h6))
          cases e with
          | normal =>
            obtain ⟨t', ht', hst4⟩ := hq4
            obtain ⟨w', hr, hst5, h6, h7, h8⟩ := finish _ none (R0 .ready none) hst4 rfl (hηn _ _)
            exact ⟨_, w', hr, _, _, h6, h7, h8, fun i hi => hlow hst5 i hi, .inl ⟨rfl, t', ht', hst5, rfl, rfl⟩⟩
          | ret =>
            obtain ⟨t', ht', hst4⟩ := hq4
            obtain ⟨w', hr, hst5, h6, h7, h8⟩ := finish _ (some .ret) (R0 .done (some .ret)) hst4 rfl (hηx _)
            exact ⟨_, w', hr, _, _, h6, h7, h8, fun i hi => hlow hst5 i hi, .inr ⟨rfl, t', ht', hst5, rfl, rfl⟩⟩
          | exit i => obtain ⟨_, hj2, _⟩ := hq4; cases hj2
          | goto _ => exact hq4.elim
          | panic _ => exact hq4.elim
          | outgrown => exact hq4.elim
      have e2 : (fun (tmps : Array Value) (x : Nat × Value) => match x with | (t, a) => tmps.setIfInBounds t a) = (fun (tmps : Array Value) (x : Nat × Value) => tmps.setIfInBounds x.1 x.2) := rfl
      rw [← hzip] at hw2
      exact hw2
    · rintro e W3 ⟨⟨v, rfl⟩, O', R', hJ⟩
      rcases hJ with ⟨t, ht, hst, -, -⟩ | ⟨t, ht, hst, -, -⟩
      · have hl3 : W3.heap[lI]? = some (.loop (R0 .ready none)) := hst.ok _ (List.mem_cons_self ..)
        have hr := run_endLoop (P := P) hl3 (by simp [R0])
        refine ⟨none, _, hr, ?_⟩
        have h5 := hst.putobj (.loop { R0 .ready none with state := .exhausted })
        have h6 : St X1 s (.obj D (.deferred (some [])) :: η nv t) a1 _ := St.drop (out := [_]) h5
        exact hdone D t ht _ _ ⟨h6.sz, by show _ ++ _ = _; rw [st.df]; rfl, h6.sl, h6.kp, h6.ok, h6.ll, h6.fr, h6.nd, h6.dj, h6.iv, h6.ib, h6.rk⟩
      · have hl3 : W3.heap[lI]? = some (.loop (R0 .done (some (.ret)))) := hst.ok _ (List.mem_cons_self ..)
        have hr := run_endLoop (P := P) hl3 (by simp [R0])
        refine ⟨some (.ret), _, hr, ?_⟩
        have h5 := hst.putobj (.loop { R0 .done (some (.ret)) with state := .exhausted })
        have h6 : St X1 s (.obj D (.deferred (some [])) :: ηx t) a1 _ := St.drop (out := [_]) h5
        exact hstop D t ht _ _ ⟨h6.sz, by show _ ++ _ = _; rw [st.df]; rfl, h6.sl, h6.kp, h6.ok, h6.ll, h6.fr, h6.nd, h6.dj, h6.iv, h6.ib, h6.rk⟩
/-- Results that both lie in cells. -/
theorem rescc {P : Program} {s : List (Nat × Value)} {h : List HA} {fn : Func} {p u g g2 : Nat} {ty ty2 e1 e2 : TypeId} {v v2 : Value} {td td2 : TypeDesc} (i j : Nat) (hi : h[i]? = some (.blk g e1 [v])) (hj : h[j]? = some (.blk g2 e2 [v2])) (hr : fn.results = #[.cell p ty, .cell u ty2]) (hp : s.lookup p = some (.pointer (some ⟨g, 0, none⟩))) (hu : s.lookup u = some (.pointer (some ⟨g2, 0, none⟩)))
    (ht : P.underlying ty = some td) (hn : isAggT td = false) (ht2 : P.underlying ty2 = some td2) (hn2 : isAggT td2 = false) : ResV P fn s h (.tuple #[v, v2]) := fun tmps hs w hw => by
  have hb : w.heap[g]? = some (.cells #[v] e1 (0, 0)) := hw _ (List.mem_of_getElem? hi)
  have hb2 : w.heap[g2]? = some (.cells #[v2] e2 (0, 0)) := hw _ (List.mem_of_getElem? hj)
  have h1 : tmps[p]?.getD undef = .pointer (some ⟨g, 0, none⟩) := by simp [hs p _ hp]
  have h2 : tmps[u]?.getD undef = .pointer (some ⟨g2, 0, none⟩) := by simp [hs u _ hu]
  have l1 : (loadVar ty ⟨g, 0, none⟩).run P w = .ok v w := by
    have hagg : (isAgg ty).run P w = .ok false w := by unfold isAgg; rw [Sem.run_bind, run_underlying ht w]; cases td <;> simp_all [isAggT]
    simp only [loadVar, Sem.run_bind, hagg, Result.andThen_ok]
    simp [World.cell?, hb]
  have l2 : (loadVar ty2 ⟨g2, 0, none⟩).run P w = .ok v2 w := by
    have hagg : (isAgg ty2).run P w = .ok false w := by unfold isAgg; rw [Sem.run_bind, run_underlying ht2 w]; cases td2 <;> simp_all [isAggT]
    simp only [loadVar, Sem.run_bind, hagg, Result.andThen_ok]
    simp [World.cell?, hb2]
  simp [results, hr, h1, h2, asAddr, l1, l2]
end Go.Proofs.Ytlplpmkdebemnaa.Fw
