/- Rows of one's own whose elements have many cells. No conditions. -/
import Derived.Test.YtchfhndpbfohhaaArr
import Derived.Great.BuildSlice
import Derived.Great.FillDense
namespace Go.Proofs.Ytchfhndpbfohhaa
set_option linter.unusedVariables false
set_option linter.unusedSimpArgs false
open Go.RowKit Bv
section
variable {w w' : World} {base n size : Nat} {e : TypeId} {v : Value} {zs : List Value} {P : Program}
theorem ownN_form (h : w.ownsRow base e size v n zs) : ∃ A c, v = .slice A n c ∧ (A = none → c = 0) ∧ (∀ ad, A = some ad → ∃ g, ad = ⟨g, 0, none⟩ ∧ base ≤ g ∧ g < w.heap.size) := by
  obtain ⟨hl, h | ⟨g, cap, cur, hv, hg, hb, hn, hm, hs, ht⟩⟩ := h
  · obtain ⟨rfl, rfl⟩ := h
    exact ⟨none, 0, rfl, fun _ => rfl, (fun _ h => by cases h)⟩
  · refine ⟨_, _, hv, (fun h => by cases h), fun ad h => ?_⟩
    cases h
    exact ⟨g, rfl, hg, (Array.getElem?_eq_some_iff.1 hb).1⟩
theorem ownN_le {base' : Nat} (h : w.ownsRow base e size v n zs) (hb : base' ≤ base) : w.ownsRow base' e size v n zs :=
  ⟨h.1, h.2.imp id fun ⟨g, cap, cur, a, b, r⟩ => ⟨g, cap, cur, a, Nat.le_trans hb b, r⟩⟩
theorem ownN_keep (h : w.ownsRow base e size v n zs) (hk : ∀ k, base ≤ k → k < w.heap.size → w'.heap[k]? = w.heap[k]?) : w'.ownsRow base e size v n zs := by
  obtain ⟨hl, h | ⟨g, cap, cur, hv, hg, hbk, hn, hm, hs, ht⟩⟩ := h
  · exact ⟨hl, .inl h⟩
  · exact ⟨hl, .inr ⟨g, cap, cur, hv, hg, (hk g hg (Array.getElem?_eq_some_iff.1 hbk).1).trans hbk, hn, hm, hs, ht⟩⟩
theorem ownN_below (h : w.ownsRow base e size v n zs) (hb : Below w.heap.size w w') : w'.ownsRow base e size v n zs := ownN_keep h fun k _ hk => hb.block k hk
theorem ownN_only {g : Nat} (h : w.ownsRow base e size v n zs) (ho : Only g w w') (hg : g < base) : w'.ownsRow base e size v n zs := ownN_keep h fun k hk _ => ho.block k (by omega)
theorem ownN_block (h : w.ownsRow base e size v n zs) : ∀ k, v.ownBlock = some k → base ≤ k := by
  intro k hk
  obtain ⟨_, h | ⟨g, cap, cur, rfl, hg, _⟩⟩ := h
  · obtain ⟨rfl, _⟩ := h; cases hk
  · cases hk; exact hg
theorem ownN_len (h : w.ownsRow base e size v n zs) : zs.length = n * size := h.1
theorem ownN_some {A : Option Addr} {c : Nat} (h : w.ownsRow base e size (.slice A n c) n zs) (hn : 0 < n) :
    ∃ g, A = some ⟨g, 0, none⟩ ∧ base ≤ g ∧ g < w.heap.size ∧ n ≤ c ∧ c ≤ maxLen ∧ ∀ j u, zs[j]? = some u → w.cell? ⟨g, j, none⟩ = some u := by
  have hc := fun g hg => World.ownsRow.cells h (g := g) hg
  obtain ⟨hl, h | ⟨g, cap, cur, hv, hg, hbk, hn', hm, hs, ht⟩⟩ := h
  · omega
  · cases hv
    exact ⟨g, rfl, hg, (Array.getElem?_eq_some_iff.1 hbk).1, hn', hm, fun j u hj => by have := hc g rfl j u hj; rwa [Addr.add_lit, Nat.zero_add] at this⟩
/-- A slice literal of one part. -/
theorem wpList_buildOne {ops : Array Oper} {rest : List Oper} {o : Oper} {a : Act} {Q : Exit → Act → World → Prop} (hg : o.guard = none) (t e : TypeId) (x : Operand) (ho : o.op = .buildSlice t 1 #[(0, x)])
    (cs : List Value) (ie : TypeInfo) (z : Value) (hx : a.eval x = .agg cs.toArray)
    (hu : P.underlying t = some (.slice e)) (hie : P.info? e = some ie) (hz : ie.zero = some z) (hsize : ie.size = cs.length) (hpos : 0 < cs.length) (hsmall : cs.length ≤ 16777216)
    (h : wpList P ops Q rest (a.put o.dst (.slice (some ⟨w.heap.size, 0, none⟩) 1 1)) (w.alloc (.cells cs.toArray e))) : wpList P ops Q (o :: rest) a w := by
  refine wpList_buildSlice hg t e 1 _ ho cs.toArray ie z hu hie hz (by rw [hsize]; omega) (by rw [hsize]; omega) ?_ h
  have := Great.fill_whole (s := cs.length) hpos [Value.agg cs.toArray] ((Array.range (1 * ie.size)).map (z.cells[· % z.cells.size]!)) (by simp [Value.cells]) (by simp [hsize])
  rw [hsize] at this ⊢
  simpa [Value.cells, hx] using this
end
end Go.Proofs.Ytchfhndpbfohhaa
