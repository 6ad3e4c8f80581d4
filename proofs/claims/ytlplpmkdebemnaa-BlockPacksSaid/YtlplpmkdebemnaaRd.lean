/- Slices and arrays of numbers that are read: their lists of bit vectors. No conditions. -/
import Derived.Test.YtlplpmkdebemnaaBv
import Derived.Below
import Derived.ChangeShapes
import Derived.OpenShut
import Derived.Deep.QuietTactic
namespace Go.Proofs.Ytlplpmkdebemnaa
set_option linter.unusedVariables false
set_option linter.unusedSimpArgs false
open Go.RowKit Bv Go.ChangeShapes

theorem add0 (ad : Addr) : ad.add 0 = ad := by
  cases ad; unfold Addr.add; split <;> simp_all
/-- A contract that leaves the world alone, within a region that draws its order. -/
theorem quiet_eq {P : Program} {f : FuncId} {args : Array Value} {w : World} {n : Nat} {v : Value}
    (h : Calls P f args (w.drewN n) fun e w' => e = .returned v ∧ w.drewN n = w') : Calls P f args (w.drewN n) fun e w'' => e = .returned v ∧ ∃ m, w'' = w.drewN m :=
  h.mono fun _ _ ⟨he, hm⟩ => ⟨he, n, hm.symm⟩
theorem below_drewN {B : Nat} {w W : World} (h : Below B w W) (n : Nat) : Below B w (W.drewN n) := ⟨h.os, h.tape, h.output, h.size, h.block⟩
theorem heap_drewN (w : World) (n : Nat) : (w.drewN n).heap = w.heap := rfl
/-- Element j of a list (a plain def: the walk doesn't look into it). -/
def ath {k : Nat} (xs : List (BitVec k)) (j : Nat) : BitVec k := xs.getD j 0
theorem ath_get {k : Nat} (xs : List (BitVec k)) (j : Nat) (h : j < xs.length) : ath xs j = xs[j] := by simp [ath, h]
theorem ath_take {k : Nat} (xs : List (BitVec k)) (n j : Nat) (h : j < n) : ath (xs.take n) j = ath xs j := by
  simp only [ath, List.getD_eq_getElem?_getD, List.getElem?_take, if_pos h]
theorem ath_drop {k : Nat} (xs : List (BitVec k)) (n j : Nat) : ath (xs.drop n) j = ath xs (n + j) := by
  simp only [ath, List.getD_eq_getElem?_getD, List.getElem?_drop]
theorem ath_app_l {k : Nat} (xs ys : List (BitVec k)) (j : Nat) (h : j < xs.length) : ath (xs ++ ys) j = ath xs j := by
  simp only [ath, List.getD_eq_getElem?_getD, List.getElem?_append_left h]
theorem ath_app_r {k : Nat} (xs ys : List (BitVec k)) (j : Nat) (h : xs.length ≤ j) : ath (xs ++ ys) j = ath ys (j - xs.length) := by
  simp only [ath, List.getD_eq_getElem?_getD, List.getElem?_append_right h]
theorem take_ath {k : Nat} (xs : List (BitVec k)) (j : Nat) (h : j < xs.length) : xs.take (j + 1) = xs.take j ++ [ath xs j] := by
  rw [ath_get xs j h, List.take_succ_eq_append_getElem h]
theorem ext_ath {k : Nat} {xs ys : List (BitVec k)} (hl : xs.length = ys.length) (h : ∀ j, j < xs.length → ath xs j = ath ys j) : xs = ys := by
  apply List.ext_getElem hl
  intro j h1 h2
  rw [← ath_get xs j h1, ← ath_get ys j h2]
  exact h j h1
/-- A slice of n elements (capacity c) at A reads as xs. -/
structure Rd {k : Nat} (enc : BitVec k → Value) (w : World) (A : Option Addr) (n c : Nat) (xs : List (BitVec k)) : Prop where
  len : xs.length = n
  le : n ≤ c
  most : c ≤ 9223372036854775807
  isn : A = none → c = 0
  cells : ∀ ad, A = some ad → ∀ j, j < n → w.cell? (ad.add j) = some (enc (ath xs j))
section
variable {k : Nat} {enc : BitVec k → Value} {w w' : World} {A : Option Addr} {n c : Nat} {xs : List (BitVec k)}
theorem Rd.cast {ys : List (BitVec k)} (h : Rd enc w A n c xs) (e : xs = ys) : Rd enc w A n c ys := e ▸ h
theorem Rd.below {B : Nat} (h : Rd enc w A n c xs) (hb : Below B w w') (hB : w.heap.size ≤ B) : Rd enc w' A n c xs :=
  ⟨h.len, h.le, h.most, h.isn, fun ad e j hj => (hb.cell (Nat.lt_of_lt_of_le (World.block_lt_of_cell? w _ (h.cells ad e j hj)) hB)).trans (h.cells ad e j hj)⟩
theorem Rd.drewN (h : Rd enc w A n c xs) (m : Nat) : Rd enc (w.drewN m) A n c xs := ⟨h.len, h.le, h.most, h.isn, h.cells⟩
theorem Rd.addr (h : Rd enc w A n c xs) (hn : 0 < n) : ∃ ad, A = some ad ∧ ∀ j, j < n → w.cell? (ad.add j) = some (enc (ath xs j)) := by
  cases A with
  | none => have := h.isn rfl; have := h.le; omega
  | some ad => exact ⟨ad, rfl, h.cells ad rfl⟩
theorem Rd.nil (w : World) : Rd enc w none 0 0 [] := ⟨rfl, by omega, by omega, fun _ => rfl, fun _ _ j hj => by omega⟩
end

/-- What a list of well-formed whole numbers is. -/
theorem all8 : ∀ (zs : List Int), (∀ n ∈ zs, (Lit.int .u8 n).wf = true) → ∃ xs : List (BitVec 8), zs = xs.map n8
  | [], _ => ⟨[], rfl⟩
  | z :: zs, h => by
    obtain ⟨x, hx⟩ := ex8 (h z (by simp))
    obtain ⟨xs, hxs⟩ := all8 zs (fun n hn => h n (by simp [hn]))
    exact ⟨x :: xs, by simp [hx, hxs]⟩
theorem all32 : ∀ (zs : List Int), (∀ n ∈ zs, (Lit.int .u32 n).wf = true) → ∃ xs : List (BitVec 32), zs = xs.map n32
  | [], _ => ⟨[], rfl⟩
  | z :: zs, h => by
    obtain ⟨x, hx⟩ := ex32 (h z (by simp))
    obtain ⟨xs, hxs⟩ := all32 zs (fun n hn => h n (by simp [hn]))
    exact ⟨x :: xs, by simp [hx, hxs]⟩
theorem all64 : ∀ (zs : List Int), (∀ n ∈ zs, (Lit.int .u64 n).wf = true) → ∃ xs : List (BitVec 64), zs = xs.map n64
  | [], _ => ⟨[], rfl⟩
  | z :: zs, h => by
    obtain ⟨x, hx⟩ := ex64 (h z (by simp))
    obtain ⟨xs, hxs⟩ := all64 zs (fun n hn => h n (by simp [hn]))
    exact ⟨x :: xs, by simp [hx, hxs]⟩
theorem alli64 : ∀ (zs : List Int), (∀ n ∈ zs, (Lit.int .i64 n).wf = true) → ∃ xs : List (BitVec 64), zs = xs.map i64
  | [], _ => ⟨[], rfl⟩
  | z :: zs, h => by
    obtain ⟨x, hx⟩ := exi64 (h z (by simp))
    obtain ⟨xs, hxs⟩ := alli64 zs (fun n hn => h n (by simp [hn]))
    exact ⟨x :: xs, by simp [hx, hxs]⟩

section
variable {H : Type} {enc : TypeId × Value → H} {P : Program} {w : World} {base : Nat} {held : Bool} {t e : TypeId}
/-- What the row of a slice of whole numbers reads as: whatever its make. -/
theorem open_row {k : IntKind} {q : Nat} (num : BitVec q → Int) (hall : ∀ (zs : List Int), (∀ n ∈ zs, (Lit.int k n).wf = true) → ∃ xs : List (BitVec q), zs = xs.map num) {A : Option Addr} {len cap : Nat}
    (ht : P.underlying t = some (.slice e)) (he : P.underlying e = some (.int k)) (hc : P.cellsOf e = 1) {fuel : Nat} {x : DataW H × List MemPlace}
    (hf : DataW.trod enc P w base (fun _ => true) held fuel t (Value.slice A len cap).cells.toList = some x) : ∃ xs : List (BitVec q), Rd (fun b => Value.int k (num b)) w A len cap xs := by
  rcases open_ints ht he hc hf with ⟨hcs, _⟩ | ⟨y, l, c, zs, hcs, _, hl, hm, hz, _, hcell, hwz⟩
  · simp [Value.cells] at hcs
    obtain ⟨rfl, rfl, rfl⟩ := hcs
    exact ⟨[], Rd.nil _⟩
  · simp [Value.cells] at hcs
    obtain ⟨rfl, rfl, rfl⟩ := hcs
    obtain ⟨xs, rfl⟩ := hall zs hwz
    have hm' : cap ≤ 9223372036854775807 := hm
    have hz' : xs.length = cap := by simpa using hz
    simp only [List.length_map] at hcell
    refine ⟨xs.take len, ⟨by simp; omega, hl, by omega, (fun h => by cases h), fun ad e j hj => ?_⟩⟩
    cases e
    rw [hcell j (by omega), ath_take xs len j hj, ath_get xs j (by omega)]
    simp [List.getElem?_map, List.getElem?_eq_getElem (show j < xs.length by omega)]
/-- What an array of whole numbers, by value, reads as. -/
theorem open_arr {n : Nat} {k : IntKind} {β : Type} {r : Reach} {b0 : Nat} (num : β → Int) (hall : ∀ (zs : List Int), (∀ n ∈ zs, (Lit.int k n).wf = true) → ∃ xs : List β, zs = xs.map num) {v : Value}
    (ht : P.underlying t = some (.array n e)) (he : P.underlying e = some (.int k)) (hce : P.cellsOf e = 1) (hct : P.cellsOf t = n) {fuel : Nat} {x : DataW H × List MemPlace}
    (hv : Value.okWide P w r b0 t v) (hf : DataW.trod enc P w base (fun _ => true) held fuel t v.cells.toList = some x) : ∃ xs : List β, xs.length = n ∧ v = .agg (xs.map (fun b => Value.int k (num b))).toArray := by
  obtain ⟨cs, rfl, hsz⟩ : ∃ cs, v = .agg cs ∧ cs.size = P.cellsOf t := by
    unfold Value.okWide at hv
    rw [ht] at hv
    obtain ⟨cs, h1, h2, _⟩ := hv
    exact ⟨cs, h1, h2⟩
  simp only [Value.cells] at hf
  obtain ⟨ys, m, rfl, -, hl, hy, hel⟩ := DataW.trod_array ht hf
  rw [hct] at hsz
  have key : ∀ i (h : i < cs.size), ∃ z : Int, cs[i] = .int k z ∧ (Lit.int k z).wf = true := by
    intro i hi
    have h1 := hel i (by omega)
    rw [hce, Nat.mul_one, List.getElem?_eq_getElem (show i < ys.length by omega)] at h1
    have hcl : i < cs.toList.length := by simpa using hi
    rw [List.drop_eq_getElem_cons hcl, List.take_succ_cons, List.take_zero] at h1
    obtain ⟨z, h2, _, h3⟩ := DataW.trod_int he h1
    simp only [List.cons.injEq, and_true] at h2
    exact ⟨z, by simpa using h2, h3⟩
  have zs : ∃ zs : List Int, cs.toList = zs.map (Value.int k) ∧ ∀ n ∈ zs, (Lit.int k n).wf = true := by
    have : ∀ l : List Value, (∀ i (h : i < l.length), ∃ z : Int, l[i] = .int k z ∧ (Lit.int k z).wf = true) → ∃ zs : List Int, l = zs.map (Value.int k) ∧ ∀ n ∈ zs, (Lit.int k n).wf = true := by
      intro l
      induction l with
      | nil => exact fun _ => ⟨[], rfl, by simp⟩
      | cons a l ih =>
        intro h
        obtain ⟨z, hz, hw⟩ := h 0 (by simp)
        obtain ⟨zs, h1, h2⟩ := ih (fun i hi => by have := h (i + 1) (by simp; omega); simpa using this)
        exact ⟨z :: zs, by simp at hz; simp [hz, h1], by simp [hw]; exact h2⟩
    exact this cs.toList (fun i hi => by have := key i (by simpa using hi); simpa using this)
  obtain ⟨zs, h1, h2⟩ := zs
  obtain ⟨xs, rfl⟩ := hall zs h2
  have h3 : cs.toList.length = n := by simpa using hsz
  rw [h1] at h3
  refine ⟨xs, by simpa using h3, ?_⟩
  congr 1
  apply Array.ext'
  rw [h1]; simp
end
end Go.Proofs.Ytlplpmkdebemnaa
