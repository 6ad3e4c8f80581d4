/- Slices and arrays of numbers that are read: their lists of bit vectors. No conditions. -/
import Derived.Test.YtchfhndpbfohhaaBv
import Derived.Below
import Derived.ChangeShapes
import Derived.OpenShut
namespace Go.Proofs.Ytchfhndpbfohhaa
open Go.RowKit Bv Go.ChangeShapes

/-- A slice of n elements at A reads as xs. -/
def Rd {α : Type} (enc : α → Value) (w : World) (A : Option Addr) (n : Nat) (xs : List α) : Prop :=
  xs.length = n ∧ n ≤ 9223372036854775807 ∧ (0 < n → ∃ ad, A = some ad ∧ ∀ j (h : j < xs.length), w.cell? (ad.add j) = some (enc xs[j]))
theorem Rd.len {α : Type} {enc : α → Value} {w : World} {A : Option Addr} {n : Nat} {xs : List α} (h : Rd enc w A n xs) : xs.length = n := h.1
theorem Rd.get {α : Type} {enc : α → Value} {w : World} {A : Option Addr} {n : Nat} {xs : List α} (h : Rd enc w A n xs) (j : Nat) (hj : j < n) :
    ∃ ad, A = some ad ∧ w.cell? (ad.add j) = some (enc (xs[j]'(by rw [h.1]; exact hj))) := by
  obtain ⟨ad, e, hc⟩ := h.2.2 (by omega)
  exact ⟨ad, e, hc _ _⟩
theorem Rd.below {α : Type} {enc : α → Value} {w w' : World} {A : Option Addr} {n : Nat} {xs : List α} (h : Rd enc w A n xs) (hb : Below w.heap.size w w') : Rd enc w' A n xs :=
  ⟨h.1, h.2.1, fun hn => by
    obtain ⟨ad, e, hc⟩ := h.2.2 hn
    exact ⟨ad, e, fun j hj => (hb.cell (World.block_lt_of_cell? w _ (hc j hj))).trans (hc j hj)⟩⟩

/-- What a list of well-formed whole numbers is. -/
theorem all8 : ∀ (zs : List Int), (∀ n ∈ zs, (Lit.int .u8 n).wf = true) → ∃ xs : List (BitVec 8), zs = xs.map n8
  | [], _ => ⟨[], rfl⟩
  | z :: zs, h => by
    obtain ⟨x, hx⟩ := ex8 (h z (by simp))
    obtain ⟨xs, hxs⟩ := all8 zs (fun n hn => h n (by simp [hn]))
    exact ⟨x :: xs, by simp [hx, hxs]⟩
theorem all32 : ∀ (zs : List Int), (∀ n ∈ zs, (Lit.int .u32 n).wf = true) → ∃ xs : List (BitVec 32), zs = xs.map n32
  | [], _ => ⟨[], rfl⟩
  | z :: zs, h => by
    obtain ⟨x, hx⟩ := ex32 (h z (by simp))
    obtain ⟨xs, hxs⟩ := all32 zs (fun n hn => h n (by simp [hn]))
    exact ⟨x :: xs, by simp [hx, hxs]⟩
theorem all64 : ∀ (zs : List Int), (∀ n ∈ zs, (Lit.int .u64 n).wf = true) → ∃ xs : List (BitVec 64), zs = xs.map n64
  | [], _ => ⟨[], rfl⟩
  | z :: zs, h => by
    obtain ⟨x, hx⟩ := ex64 (h z (by simp))
    obtain ⟨xs, hxs⟩ := all64 zs (fun n hn => h n (by simp [hn]))
    exact ⟨x :: xs, by simp [hx, hxs]⟩
theorem alli64 : ∀ (zs : List Int), (∀ n ∈ zs, (Lit.int .i64 n).wf = true) → ∃ xs : List (BitVec 64), zs = xs.map i64
  | [], _ => ⟨[], rfl⟩
  | z :: zs, h => by
    obtain ⟨x, hx⟩ := exi64 (h z (by simp))
    obtain ⟨xs, hxs⟩ := alli64 zs (fun n hn => h n (by simp [hn]))
    exact ⟨x :: xs, by simp [hx, hxs]⟩

section
variable {H : Type} {enc : TypeId × Value → H} {P : Program} {w : World} {base : Nat} {held : Bool} {t e : TypeId}
/-- What the row of a slice of whole numbers reads as: whatever its make. -/
theorem open_row {k : IntKind} {β : Type} (num : β → Int) (hall : ∀ (zs : List Int), (∀ n ∈ zs, (Lit.int k n).wf = true) → ∃ xs : List β, zs = xs.map num) {A : Option Addr} {len cap : Nat}
    (ht : P.underlying t = some (.slice e)) (he : P.underlying e = some (.int k)) (hc : P.cellsOf e = 1) {fuel : Nat} {x : DataW H × List MemPlace}
    (hf : DataW.trod enc P w base (fun _ => true) held fuel t (Value.slice A len cap).cells.toList = some x) : len ≤ cap ∧ ∃ xs : List β, Rd (fun b => Value.int k (num b)) w A len xs := by
  rcases open_ints ht he hc hf with ⟨hcs, _⟩ | ⟨y, l, c, zs, hcs, _, hl, hm, hz, _, hcell, hwz⟩
  · simp [Value.cells] at hcs
    obtain ⟨rfl, rfl, rfl⟩ := hcs
    exact ⟨Nat.le_refl _, [], rfl, by omega, fun h => by omega⟩
  · simp [Value.cells] at hcs
    obtain ⟨rfl, rfl, rfl⟩ := hcs
    obtain ⟨xs, rfl⟩ := hall zs hwz
    have hm' : cap ≤ 9223372036854775807 := hm
    have hz' : xs.length = cap := by simpa using hz
    simp only [List.length_map] at hcell
    refine ⟨hl, xs.take len, by simp; omega, by omega, fun _ => ⟨y, rfl, fun j hj => ?_⟩⟩
    simp only [List.length_take] at hj
    rw [hcell j (by omega)]
    simp [List.getElem?_map, List.getElem?_eq_getElem (show j < xs.length by omega)]
/-- What an array of whole numbers, by value, reads as. -/
theorem open_arr {n : Nat} {k : IntKind} {β : Type} {r : Reach} {b0 : Nat} (num : β → Int) (hall : ∀ (zs : List Int), (∀ n ∈ zs, (Lit.int k n).wf = true) → ∃ xs : List β, zs = xs.map num) {v : Value}
    (ht : P.underlying t = some (.array n e)) (he : P.underlying e = some (.int k)) (hce : P.cellsOf e = 1) (hct : P.cellsOf t = n) {fuel : Nat} {x : DataW H × List MemPlace}
    (hv : Value.okWide P w r b0 t v) (hf : DataW.trod enc P w base (fun _ => true) held fuel t v.cells.toList = some x) : ∃ xs : List β, xs.length = n ∧ v = .agg (xs.map (fun b => Value.int k (num b))).toArray := by
  obtain ⟨cs, rfl, hsz⟩ : ∃ cs, v = .agg cs ∧ cs.size = P.cellsOf t := by
    unfold Value.okWide at hv
    rw [ht] at hv
    obtain ⟨cs, h1, h2, _⟩ := hv
    exact ⟨cs, h1, h2⟩
  simp only [Value.cells] at hf
  obtain ⟨ys, m, rfl, -, hl, hy, hel⟩ := DataW.trod_array ht hf
  rw [hct] at hsz
  have key : ∀ i (h : i < cs.size), ∃ z : Int, cs[i] = .int k z ∧ (Lit.int k z).wf = true := by
    intro i hi
    have h1 := hel i (by omega)
    rw [hce, Nat.mul_one, List.getElem?_eq_getElem (show i < ys.length by omega)] at h1
    have hcl : i < cs.toList.length := by simpa using hi
    rw [List.drop_eq_getElem_cons hcl, List.take_succ_cons, List.take_zero] at h1
    obtain ⟨z, h2, _, h3⟩ := DataW.trod_int he h1
    simp only [List.cons.injEq, and_true] at h2
    exact ⟨z, by simpa using h2, h3⟩
  have zs : ∃ zs : List Int, cs.toList = zs.map (Value.int k) ∧ ∀ n ∈ zs, (Lit.int k n).wf = true := by
    have : ∀ l : List Value, (∀ i (h : i < l.length), ∃ z : Int, l[i] = .int k z ∧ (Lit.int k z).wf = true) → ∃ zs : List Int, l = zs.map (Value.int k) ∧ ∀ n ∈ zs, (Lit.int k n).wf = true := by
      intro l
      induction l with
      | nil => exact fun _ => ⟨[], rfl, by simp⟩
      | cons a l ih =>
        intro h
        obtain ⟨z, hz, hw⟩ := h 0 (by simp)
        obtain ⟨zs, h1, h2⟩ := ih (fun i hi => by have := h (i + 1) (by simp; omega); simpa using this)
        exact ⟨z :: zs, by simp at hz; simp [hz, h1], by simp [hw]; exact h2⟩
    exact this cs.toList (fun i hi => by have := key i (by simpa using hi); simpa using this)
  obtain ⟨zs, h1, h2⟩ := zs
  obtain ⟨xs, rfl⟩ := hall zs h2
  have h3 : cs.toList.length = n := by simpa using hsz
  rw [h1] at h3
  refine ⟨xs, by simpa using h3, ?_⟩
  congr 1
  apply Array.ext'
  rw [h1]; simp
end
end Go.Proofs.Ytchfhndpbfohhaa
