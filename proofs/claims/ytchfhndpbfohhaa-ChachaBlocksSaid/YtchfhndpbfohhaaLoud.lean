/- A statement whose order is left open, whose operations read, and whose calls may make memory of their own: walked once. No conditions. -/
import Derived.Test.YtchfhndpbfohhaaReg
import Derived.Test.YtchfhndpbfohhaaMem
import Derived.Test.YtchfhndpbfohhaaArr
import Derived.Deep.Quiet
import Derived.BigQuiet
import Derived.KernelRfl
namespace Go.Proofs.Ytchfhndpbfohhaa
set_option linter.unusedVariables false
set_option linter.unusedSimpArgs false
open Go.RowKit Bv
section
variable {P : Program} {ops : Array Oper} {Q : Act → Prop} {a : Act} {o : Oper} {rest : List Oper} {W0 : World}
/-- Whatever lay in a world lies as it lay. -/
def LC (W0 W : World) : Prop := Below W0.heap.size W0 W
theorem wp_region_loud {id : Nat} {Q : Exit → Act → World → Prop} {l : List Oper} (hm : P.follows .mixedOrders = true) (hB : Region.lexB .any l.toArray = true)
    (h : wpQuiet P l.toArray (LC W0) (fun a' => ∀ w', Below W0.heap.size W0 w' → Q .normal a' w') l a) : (Code.region id l.toArray true).wp P Q a W0 :=
  wp_region_quiet (C := LC W0) hm hB ⟨rfl, rfl, rfl, Nat.le_refl _, fun _ _ => rfl⟩ h
theorem lq_skip {C : World → Prop} (hw : Region.wanted o (yielded ops a.tmps) = false) (h : wpQuiet P ops C Q rest (a.put o.dst undef)) : wpQuiet P ops C Q (o :: rest) a :=
  wpQuiet_step fun K hK => by rw [if_neg (by rw [hw]; exact Bool.false_ne_true)]; exact hK _ h
theorem lq_pure {C : World → Prop} {v : Value} (hw : Region.wanted o (yielded ops a.tmps) = true) (hr : ∀ w, (execOp a.eval o).run P w = .ok (.value v) w) (h : wpQuiet P ops C Q rest (a.put o.dst v)) : wpQuiet P ops C Q (o :: rest) a :=
  wpQuiet_step fun K hK => by
    rw [if_pos hw]
    exact ⟨v, fun w _ => by unfold Oper.quietAt; rw [hr w]; exact ⟨rfl, rfl⟩, hK _ h⟩
theorem lq_read {v : Value} (hw : Region.wanted o (yielded ops a.tmps) = true) (hr : ∀ w, Below W0.heap.size W0 w → (execOp a.eval o).run P w = .ok (.value v) w) (h : wpQuiet P ops (LC W0) Q rest (a.put o.dst v)) : wpQuiet P ops (LC W0) Q (o :: rest) a :=
  wpQuiet_step fun K hK => by
    rw [if_pos hw]
    exact ⟨v, fun w hb => by unfold Oper.quietAt; rw [hr w hb]; exact ⟨rfl, rfl⟩, hK _ h⟩
theorem lq_call {v : Value} {f : FuncId} {args : Array Value} (hw : Region.wanted o (yielded ops a.tmps) = true) (hr : ∀ w, (execOp a.eval o).run P w = .ok (.enter f args) w)
    (hc : ∀ w, Below W0.heap.size W0 w → Calls P f args w fun e w' => e = .returned v ∧ Below w.heap.size w w') (h : wpQuiet P ops (LC W0) Q rest (a.put o.dst v)) : wpQuiet P ops (LC W0) Q (o :: rest) a :=
  wpQuiet_step fun K hK => by
    rw [if_pos hw]
    refine ⟨v, fun w hb => ?_, hK _ h⟩
    have hsz : W0.heap.size ≤ w.heap.size := hb.size
    unfold Oper.quietAt; rw [hr w]
    exact ⟨rfl, (hc w hb).mono fun e w' ⟨he, hb'⟩ => ⟨he, Below.trans hb (hb'.mono hsz)⟩⟩
/-- A whole array is loaded. -/
theorem lq_load_blk {ty : TypeId} {x : Operand} {n g : Nat} {et e : TypeId} {cs : List Value} (hw : Region.wanted o (yielded ops a.tmps) = true) (ho : o.op = .load ty x) (hx : a.eval x = .pointer (some ⟨g, 0, none⟩)) (hb : Blk W0 g e cs)
    (hu : P.underlying ty = some (.array n et)) (hi : (P.info? ty).map (·.size) = some cs.length)
    (h : wpQuiet P ops (LC W0) Q rest (a.put o.dst (.agg cs.toArray))) : wpQuiet P ops (LC W0) Q (o :: rest) a := by
  refine lq_read hw (fun w hbw => ?_) h
  have hlt : g < W0.heap.size := hb.lt
  have hb' : Blk w g e cs := hb.below hbw hlt
  obtain ⟨i, hq, hs⟩ := Option.map_eq_some_iff.1 hi
  have hl : (loadCells ⟨g, 0, none⟩ cs.length).run P w = .ok cs.toArray w :=
    run_loadCells_list (P := P) w ⟨g, 0, none⟩ cs (fun j v hj => by rw [Addr.add_lit, Nat.zero_add, hb'.cell]; exact hj)
  have hagg : (isAgg ty).run P w = .ok true w := by
    unfold isAgg
    rw [Sem.run_bind, run_underlying hu w]
    simp
  have hload : (loadVar ty ⟨g, 0, none⟩).run P w = .ok (.agg cs.toArray) w := by
    simp only [loadVar, Sem.run_bind, hagg, Result.andThen, if_true, sizeOf, typeInfo]
    simp [hq, hs, hl]
  unfold execOp
  simp only [ho, hx, Instr.loadAt, Instr.sureAddr, Sem.run_bind, Sem.run_pure, Result.andThen_ok, hload]
end
theorem loud_same {P : Program} {f : FuncId} {args : Array Value} {w : World} {v : Value} (h : Calls P f args w fun e w' => e = .returned v ∧ w = w') : Calls P f args w fun e w' => e = .returned v ∧ Below w.heap.size w w' :=
  h.mono fun e w' ⟨he, hw⟩ => ⟨he, hw ▸ Below.refl _ _⟩
theorem lc_self (W0 : World) : LC W0 W0 := Below.refl _ _
@[go_sem] theorem lc_const (W0 : World) (p : Prop) : (∀ w, LC W0 w → p) = p := propext ⟨fun h => h W0 (lc_self W0), fun h _ _ => h⟩
theorem loud_call {P : Program} {f : FuncId} {args : Array Value} {w W0 : World} {v : Value} (hb : LC W0 w) (h : Calls P f args w fun e w' => e = .returned v ∧ Below w.heap.size w w') : Calls P f args w fun e w' => e = .returned v ∧ LC W0 w' :=
  h.mono fun e w' ⟨he, hw⟩ => ⟨he, Below.trans hb (hw.mono (Below.size hb))⟩
section
variable {P : Program} {a : Act} {o : Oper} {W0 : World} {K : Act → Prop}
theorem quiet_load_cells {ty : TypeId} {x : Operand} {n : Nat} {et : TypeId} {ad : Addr} {cs : List Value} (ho : o.op = .load ty x) (hx : a.eval x = .pointer (some ad)) (hb : ∀ j u, cs[j]? = some u → W0.cell? (ad.add j) = some u) (hlt : ad.block < W0.heap.size)
    (hu : P.underlying ty = some (.array n et)) (hi : (P.info? ty).map (·.size) = some cs.length) (h : K (a.put o.dst (.agg cs.toArray))) : o.quiet P a (LC W0) K := by
  refine ⟨_, fun w hbw => ?_, h⟩
  obtain ⟨i, hq, hs⟩ := Option.map_eq_some_iff.1 hi
  have hl : (loadCells ad cs.length).run P w = .ok cs.toArray w :=
    run_loadCells_list (P := P) w ad cs (fun j v hj => (Below.cell hbw (p := ad.add j) (by unfold Addr.add; split <;> exact hlt)).trans (hb j v hj))
  have hagg : (isAgg ty).run P w = .ok true w := by
    unfold isAgg
    rw [Sem.run_bind, run_underlying hu w]
    simp
  have hload : (loadVar ty ad).run P w = .ok (.agg cs.toArray) w := by
    simp only [loadVar, Sem.run_bind, hagg, Result.andThen, if_true, sizeOf, typeInfo]
    simp [hq, hs, hl]
  unfold Oper.quietAt execOp
  simp only [ho, hx, Instr.loadAt, Instr.sureAddr, Sem.run_bind, Sem.run_pure, Result.andThen_ok, hload]
  exact ⟨rfl, rfl⟩
theorem quiet_load_blk {ty : TypeId} {x : Operand} {n g : Nat} {et e : TypeId} {cs : List Value} (ho : o.op = .load ty x) (hx : a.eval x = .pointer (some ⟨g, 0, none⟩)) (hb : Blk W0 g e cs)
    (hu : P.underlying ty = some (.array n et)) (hi : (P.info? ty).map (·.size) = some cs.length) (h : K (a.put o.dst (.agg cs.toArray))) : o.quiet P a (LC W0) K :=
  quiet_load_cells ho hx (fun j v hj => by rw [Addr.add_lit, Nat.zero_add, hb.cell]; exact hj) hb.lt hu hi h
end
end Go.Proofs.Ytchfhndpbfohhaa
