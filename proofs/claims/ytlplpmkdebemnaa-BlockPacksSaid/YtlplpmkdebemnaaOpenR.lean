/- How a law's slices of records read. No conditions. -/
import Derived.Test.YtlplpmkdebemnaaOpenS
import Derived.Test.YtlplpmkdebemnaaFwQ
namespace Go.Proofs.Ytlplpmkdebemnaa.Fw
set_option linter.unusedVariables false
set_option linter.unusedSimpArgs false
open Go.RowKit Bv Go.ChangeShapes
section
variable {H : Type} {enc : TypeId × Value → H} {P : Program} {w : World} {base : Nat} {held : Bool} {t e : TypeId}
theorem cells4 {a : Addr} {cs : List Value} (h : w.cells? base a 4 = some cs) : ∃ c0 c1 c2 c3, cs = [c0, c1, c2, c3] ∧ w.cell? (a.add 0) = some c0 ∧ w.cell? (a.add 1) = some c1 ∧ w.cell? (a.add 2) = some c2 ∧ w.cell? (a.add 3) = some c3 := by
  unfold World.cells? at h
  split at h
  · rw [show List.range 4 = [0, 1, 2, 3] from rfl] at h
    simp only [List.mapM_cons, List.mapM_nil, Option.pure_def, Option.bind_eq_bind, Option.bind_eq_some_iff, Option.some.injEq] at h
    obtain ⟨c0, h0, l1, ⟨c1, h1, l2, ⟨c2, h2, l3, ⟨c3, h3, l4, rfl, rfl⟩, rfl⟩, rfl⟩, rfl⟩ := h
    exact ⟨c0, c1, c2, c3, rfl, h0, h1, h2, h3⟩
  · cases h
theorem rec_of {fs : Array Field} {f0 f1 f2 f3 : Field} (he : P.underlying e = some (.struct fs)) (h0 : fs[0]? = some f0) (h1 : fs[1]? = some f1) (h2 : fs[2]? = some f2) (h3 : fs[3]? = some f3) (o0 : f0.offset = 0) (o1 : f1.offset = 1) (o2 : f2.offset = 2) (o3 : f3.offset = 3)
    (t0 : P.underlying f0.type = some .bool) (t1 : P.underlying f1.type = some (.int .i64)) (t2 : P.underlying f2.type = some (.int .i64)) (t3 : P.underlying f3.type = some (.int .i64)) (c0 : P.cellsOf f0.type = 1) (c1 : P.cellsOf f1.type = 1) (c2 : P.cellsOf f2.type = 1) (c3 : P.cellsOf f3.type = 1)
    (n : Nat) (a b c d : Value) (y : DataW H × List MemPlace) (hf : DataW.trod enc P w base (fun _ => true) held n e [a, b, c, d] = some y) : ∃ r : Rc, [a, b, c, d] = r.cs := by
  obtain ⟨xs, m, -, -, hl, hxl, hfs⟩ := DataW.trod_struct he hf
  have hs : ∀ (i : Nat) (f : Field), fs[i]? = some f → ∃ n y, DataW.trod enc P w base (fun _ => true) held n f.type (([a, b, c, d].drop f.offset).take (P.cellsOf f.type)) = some y := by
    intro i f hi
    have q1 := hfs i f hi
    have q2 : i < xs.length := by rw [hxl]; exact (Array.getElem?_eq_some_iff.1 hi).1
    rw [List.getElem?_eq_getElem q2] at q1
    exact ⟨m, _, q1⟩
  obtain ⟨p, rfl⟩ := field_bool (c := a) hs 0 h0 t0 c0 (by rw [o0]; rfl)
  obtain ⟨z1, rfl, w1⟩ := field_int (c := b) hs 1 h1 t1 c1 (by rw [o1]; rfl)
  obtain ⟨z2, rfl, w2⟩ := field_int (c := c) hs 2 h2 t2 c2 (by rw [o2]; rfl)
  obtain ⟨z3, rfl, w3⟩ := field_int (c := d) hs 3 h3 t3 c3 (by rw [o3]; rfl)
  obtain ⟨x1, rfl⟩ := exi64 w1
  obtain ⟨x2, rfl⟩ := exi64 w2
  obtain ⟨x3, rfl⟩ := exi64 w3
  exact ⟨⟨p, x1, x2, x3⟩, rfl⟩
theorem rcs_get (xs : List Rc) (j : Nat) (v : Value) (h : (rcs xs)[j]? = some v) : ∃ r, xs[j / 4]? = some r ∧ r.cs[j % 4]? = some v := by
  have hj : j < xs.length * 4 := by have := (List.getElem?_eq_some_iff.1 h).1; rwa [rcs_len] at this
  have hq : j / 4 < xs.length := by omega
  refine ⟨xs[j / 4], List.getElem?_eq_getElem hq, ?_⟩
  have := rcs_at xs (j / 4) hq
  rw [show rat xs (j / 4) = xs[j / 4] by unfold rat; rw [List.getD_eq_getElem?_getD, List.getElem?_eq_getElem hq]; rfl] at this
  rw [← this, List.getElem?_take, if_pos (by omega), List.getElem?_drop, show j / 4 * 4 + j % 4 = j by omega, h]
/-- A slice of records, whatever its make. -/
theorem open_recs {A : Option Addr} {len cap : Nat} (ht : P.underlying t = some (.slice e)) (hc : P.cellsOf e = 4) (hel : ∀ (n : Nat) (a b c d : Value) (y : DataW H × List MemPlace), DataW.trod enc P w base (fun _ => true) held n e [a, b, c, d] = some y → ∃ r : Rc, [a, b, c, d] = r.cs) {fuel : Nat} {x : DataW H × List MemPlace}
    (hf : DataW.trod enc P w base (fun _ => true) held fuel t (Value.slice A len cap).cells.toList = some x) : ∃ xs : List Rc, xs.length = len ∧ HA.ok w (.rd A 4 len cap (rcs xs)) := by
  rcases DataW.trod_slice ht hf with ⟨hcs, _⟩ | ⟨a, l, c, elems, rest, n, -, hcs, -, hb, hl, hm, hlen, hel2, hsp, -⟩
  · simp [Value.cells] at hcs
    obtain ⟨rfl, rfl, rfl⟩ := hcs
    exact ⟨[], rfl, ⟨rfl, Nat.le_refl _, by omega, fun _ => rfl, fun ad h => by cases h⟩, fun ad h => by cases h⟩
  · simp [Value.cells] at hcs
    obtain ⟨rfl, rfl, rfl⟩ := hcs
    have hm' : cap ≤ 9223372036854775807 := hm
    have one : ∀ (i : Nat) (y : DataW H × List MemPlace), (w.cells? base (a.add (i * P.cellsOf e)) (P.cellsOf e)).bind (DataW.trod enc P w base (fun _ => true) held n e) = some y → ∃ r : Rc, ∀ q v, r.cs[q]? = some v → w.cell? (a.add (i * 4 + q)) = some v := by
      intro i y hy
      rw [hc] at hy
      obtain ⟨cs, h1, h2⟩ := Option.bind_eq_some_iff.1 hy
      obtain ⟨c0, c1, c2, c3, rfl, g0, g1, g2, g3⟩ := cells4 h1
      obtain ⟨r, hr⟩ := hel n _ _ _ _ _ h2
      have ad : ∀ q, a.add (i * 4 + q) = (a.add (i * 4)).add q := fun q => by
        obtain ⟨b, o, z⟩ := a
        by_cases k1 : i * 4 = 0 <;> by_cases k2 : q = 0 <;> simp [Addr.add, k1, k2, Nat.add_assoc] <;> omega
      refine ⟨r, fun q v hv => ?_⟩
      rw [← hr] at hv
      rw [ad q]
      have hq : q < 4 := by have := (List.getElem?_eq_some_iff.1 hv).1; simpa using this
      rcases (by omega : q = 0 ∨ q = 1 ∨ q = 2 ∨ q = 3) with rfl | rfl | rfl | rfl <;> simp at hv <;> subst hv <;> assumption
    have hall : ∀ i, i < len → ∃ r : Rc, ∀ q v, r.cs[q]? = some v → w.cell? (a.add (i * 4 + q)) = some v := by
      intro i hi
      have h1 := hel2 i hi
      rw [List.getElem?_eq_getElem (by omega)] at h1
      exact one i _ h1
    have h0 : 0 < cap → a.block < w.heap.size := by
      intro hpos
      by_cases hl0 : 0 < len
      · obtain ⟨r, hr⟩ := hall 0 hl0
        have := World.block_lt_of_cell? w _ (hr 0 _ rfl)
        rwa [add_block] at this
      · obtain ⟨hr1, hr2⟩ := hsp rfl
        have h1 := hr2 0 (by omega)
        rw [List.getElem?_eq_getElem (by omega)] at h1
        obtain ⟨r, hr⟩ := one (len + 0) _ h1
        have := World.block_lt_of_cell? w _ (hr 0 _ rfl)
        rwa [add_block] at this
    obtain ⟨L, hLl, hL⟩ := list_of len hall
    refine ⟨L, hLl, ⟨by rw [rcs_len, hLl], hl, hm', (fun h => by cases h), fun ad e j v hj => ?_⟩, fun ad e h => ?_⟩
    · cases e
      obtain ⟨r, hr1, hr2⟩ := rcs_get L j v hj
      have := hL _ _ hr1 _ _ hr2
      rwa [show j / 4 * 4 + j % 4 = j by omega] at this
    · cases e; exact h0 h
end
end Go.Proofs.Ytlplpmkdebemnaa.Fw
