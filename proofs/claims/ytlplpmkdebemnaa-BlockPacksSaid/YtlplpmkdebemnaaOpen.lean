/- How a law's arguments read, as facts. No conditions. -/
import Derived.Test.YtlplpmkdebemnaaFwK
import Derived.ChangeShapes
import Derived.ChangeSlices
import Derived.ChangeOld
namespace Go.Proofs.Ytlplpmkdebemnaa.Fw
set_option linter.unusedVariables false
set_option linter.unusedSimpArgs false
open Go.RowKit Bv Go.ChangeShapes
section
variable {H : Type} {enc : TypeId × Value → H} {P : Program} {w : World} {base : Nat} {held : Bool} {t e : TypeId}
/-- A slice of whole numbers, whatever its make. -/
theorem open_rd {k : IntKind} {q : Nat} (num : BitVec q → Int) (hall : ∀ (zs : List Int), (∀ n ∈ zs, (Lit.int k n).wf = true) → ∃ xs : List (BitVec q), zs = xs.map num) {A : Option Addr} {len cap : Nat}
    (ht : P.underlying t = some (.slice e)) (he : P.underlying e = some (.int k)) (hc : P.cellsOf e = 1) {fuel : Nat} {x : DataW H × List MemPlace}
    (hf : DataW.trod enc P w base (fun _ => true) held fuel t (Value.slice A len cap).cells.toList = some x) : ∃ xs : List (BitVec q), xs.length = len ∧ HA.ok w (.rd A 1 len cap (xs.map (fun b => Value.int k (num b)))) := by
  rcases open_ints ht he hc hf with ⟨hcs, _⟩ | ⟨y, l, c, zs, hcs, _, hl, hm, hz, _, hcell, hwz⟩
  · simp [Value.cells] at hcs
    obtain ⟨rfl, rfl, rfl⟩ := hcs
    exact ⟨[], rfl, ⟨rfl, Nat.le_refl _, by omega, fun _ => rfl, fun ad h => by cases h⟩, fun ad h => by cases h⟩
  · simp [Value.cells] at hcs
    obtain ⟨rfl, rfl, rfl⟩ := hcs
    obtain ⟨xs, rfl⟩ := hall zs hwz
    have hm' : cap ≤ 9223372036854775807 := hm
    have hz' : xs.length = cap := by simpa using hz
    simp only [List.length_map] at hcell
    refine ⟨xs.take len, by simp; omega, ⟨by simp; omega, hl, by omega, (fun h => by cases h), fun ad e j v hj => ?_⟩, fun ad e h0 => ?_⟩
    · cases e
      rw [List.getElem?_map, List.getElem?_take] at hj
      split at hj
      · rename_i hjl
        rw [hcell j (by omega)]
        rw [List.getElem?_eq_getElem (by omega)] at hj
        simp only [Option.map_some, Option.some.injEq] at hj
        rw [← hj]
        simp [List.getElem?_map, List.getElem?_eq_getElem (show j < xs.length by omega)]
      · cases hj
    · cases e
      have := World.block_lt_of_cell? w _ (hcell 0 (by omega))
      rwa [add_block] at this
theorem list_of {β : Type} {p : Nat → β → Prop} : ∀ (n : Nat), (∀ i, i < n → ∃ b, p i b) → ∃ L : List β, L.length = n ∧ ∀ i b, L[i]? = some b → p i b
  | 0, _ => ⟨[], rfl, fun i b h => by simp at h⟩
  | n + 1, h => by
    obtain ⟨L, hl, hL⟩ := list_of n (fun i hi => h i (by omega))
    obtain ⟨b, hb⟩ := h n (by omega)
    refine ⟨L ++ [b], by simp [hl], fun i c hc => ?_⟩
    by_cases hi : i < n
    · rw [List.getElem?_append_left (by omega)] at hc
      exact hL i c hc
    · rw [List.getElem?_append_right (by omega)] at hc
      have h0 : i - L.length = 0 := by
        have := (List.getElem?_eq_some_iff.1 hc).1
        simpa using this
      rw [h0] at hc
      simp only [List.getElem?_cons_zero, Option.some.injEq] at hc
      subst hc
      obtain rfl : i = n := by omega
      exact hb
/-- A slice of slices of bytes, whatever its make. -/
theorem open_pts {A : Option Addr} {len cap : Nat} {e8 : TypeId} (ht : P.underlying t = some (.slice e)) (he : P.underlying e = some (.slice e8)) (he8 : P.underlying e8 = some (.int .u8)) (hc : P.cellsOf e = 1) (hc8 : P.cellsOf e8 = 1) {fuel : Nat} {x : DataW H × List MemPlace}
    (hf : DataW.trod enc P w base (fun _ => true) held fuel t (Value.slice A len cap).cells.toList = some x) : ∃ Q : List Pt, Q.length = len ∧ HA.ok w (.rd A 1 len cap (Q.map Pt.sl)) ∧ HA.ok w (.all Q) := by
  rcases DataW.trod_slice ht hf with ⟨hcs, _⟩ | ⟨a, l, c, elems, rest, n, -, hcs, -, hb, hl, hm, hlen, hel, hsp, -⟩
  · simp [Value.cells] at hcs
    obtain ⟨rfl, rfl, rfl⟩ := hcs
    exact ⟨[], rfl, ⟨⟨rfl, Nat.le_refl _, by omega, fun _ => rfl, fun ad h => by cases h⟩, fun ad h => by cases h⟩, fun p hp => by cases hp⟩
  · simp [Value.cells] at hcs
    obtain ⟨rfl, rfl, rfl⟩ := hcs
    have hm' : cap ≤ 9223372036854775807 := hm
    have one : ∀ (i : Nat) (y : DataW H × List MemPlace), (w.cells? base (a.add (i * P.cellsOf e)) (P.cellsOf e)).bind (DataW.trod enc P w base (fun _ => true) held n e) = some y → ∃ p : Pt, w.cell? (a.add i) = some p.sl ∧ HA.ok w (.rd p.A 1 p.n p.c (p.xs.map b8)) := by
      intro i y hy
      rw [hc, Nat.mul_one] at hy
      obtain ⟨cs, h1, h2⟩ := Option.bind_eq_some_iff.1 hy
      rcases DataW.trod_slice he h2 with ⟨hcs2, _⟩ | ⟨a2, l2, c2, _, _, _, _, hcs2, _⟩
      · subst hcs2
        exact ⟨⟨none, 0, 0, []⟩, cell_of_cells?_one h1, ⟨rfl, Nat.le_refl _, Nat.zero_le _, fun _ => rfl, fun ad h => by cases h⟩, fun ad h => by cases h⟩
      · subst hcs2
        obtain ⟨xs, hxl, hx⟩ := open_rd (A := some a2) (len := l2) (cap := c2) n8 all8 he he8 hc8 (by simpa [Value.cells] using h2)
        exact ⟨⟨some a2, l2, c2, xs⟩, cell_of_cells?_one h1, hx⟩
    have hall : ∀ i, i < len → ∃ p : Pt, w.cell? (a.add i) = some p.sl ∧ HA.ok w (.rd p.A 1 p.n p.c (p.xs.map b8)) := by
      intro i hi
      have h1 := hel i hi
      rw [List.getElem?_eq_getElem (by omega)] at h1
      exact one i _ h1
    have h0 : 0 < cap → a.block < w.heap.size := by
      intro hpos
      by_cases hl0 : 0 < len
      · obtain ⟨p, hp, -⟩ := hall 0 hl0
        have := World.block_lt_of_cell? w _ hp
        rwa [add_block] at this
      · obtain ⟨hr1, hr2⟩ := hsp rfl
        have h1 := hr2 0 (by omega)
        rw [List.getElem?_eq_getElem (by omega)] at h1
        obtain ⟨p, hp, -⟩ := one (len + 0) _ h1
        have := World.block_lt_of_cell? w _ hp
        rwa [add_block] at this
    obtain ⟨Q, hQl, hQ⟩ := list_of len hall
    refine ⟨Q, hQl, ⟨⟨by simp [hQl], hl, hm', (fun h => by cases h), fun ad e j v hj => ?_⟩, fun ad e h => ?_⟩, fun p hp => ?_⟩
    · cases e
      rw [List.getElem?_map] at hj
      obtain ⟨p, hp, rfl⟩ := Option.map_eq_some_iff.1 hj
      exact (hQ j p hp).1
    · cases e; exact h0 h
    · obtain ⟨i, hi⟩ := List.mem_iff_getElem?.1 hp
      exact (hQ i p hi).2
end
/-- How a walk by facts ends a law. -/
theorem law_of_ret {P : Program} {f : FuncId} {args : Array Value} {w : World} {q : Unit → Prop} {hs : Unit → List HA} (h : Calls P f args w (Ret [] w q (fun _ => .bool true) hs)) : Calls P f args w fun e W' => e = .returned (.bool true) ∧ Below w.heap.size w W' := below_of_ret h
end Go.Proofs.Ytlplpmkdebemnaa.Fw
