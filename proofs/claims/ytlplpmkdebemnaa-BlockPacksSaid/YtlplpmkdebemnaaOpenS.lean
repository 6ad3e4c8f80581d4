/- How a law's structs read. No conditions. -/
import Derived.Test.YtlplpmkdebemnaaOpen
import Derived.OpenShut
namespace Go.Proofs.Ytlplpmkdebemnaa.Fw
set_option linter.unusedVariables false
set_option linter.unusedSimpArgs false
open Go.RowKit Bv Go.ChangeShapes
section
variable {H : Type} {enc : TypeId × Value → H} {P : Program} {w : World} {base : Nat} {held : Bool} {t e : TypeId}
theorem cons_of {α : Type} {l : List α} {n : Nat} (h : l.length = n + 1) : ∃ a r, l = a :: r ∧ r.length = n := by
  cases l with
  | nil => cases h
  | cons a r => exact ⟨a, r, rfl, by simpa using h⟩
/-- How a struct by value reads: each field by itself. -/
theorem open_struct {fs : Array Field} {r : Reach} {b0 : Nat} {v : Value} (ht : P.underlying t = some (.struct fs)) (hv : Value.okWide P w r b0 t v) {fuel : Nat} {x : DataW H × List MemPlace}
    (hf : DataW.trod enc P w base (fun _ => true) held fuel t v.cells.toList = some x) : ∃ cs : List Value, v = .agg cs.toArray ∧ cs.length = P.cellsOf t ∧ ∀ (i : Nat) (f : Field), fs[i]? = some f → ∃ n y, DataW.trod enc P w base (fun _ => true) held n f.type ((cs.drop f.offset).take (P.cellsOf f.type)) = some y := by
  obtain ⟨cs, rfl, hsz⟩ := WideShapes.okWide_struct ht hv
  simp only [Value.cells] at hf
  obtain ⟨xs, n, -, -, hl, hxl, hfs⟩ := DataW.trod_struct ht hf
  refine ⟨cs.toList, by simp, by simpa using hsz, fun i f hi => ?_⟩
  have h1 := hfs i f hi
  have h2 : i < xs.length := by rw [hxl]; exact (Array.getElem?_eq_some_iff.1 hi).1
  rw [List.getElem?_eq_getElem h2] at h1
  exact ⟨n, _, h1⟩
variable {fs : Array Field} {cs : List Value}
theorem field_int {k : IntKind} {c : Value} (hs : ∀ (i : Nat) (f : Field), fs[i]? = some f → ∃ n y, DataW.trod enc P w base (fun _ => true) held n f.type ((cs.drop f.offset).take (P.cellsOf f.type)) = some y) (i : Nat) {f : Field} (hi : fs[i]? = some f) (ht : P.underlying f.type = some (.int k)) (hc : P.cellsOf f.type = 1) (hd : (cs.drop f.offset).take 1 = [c]) :
    ∃ n, c = .int k n ∧ (Lit.int k n).wf = true := by
  obtain ⟨n, y, h⟩ := hs i f hi
  rw [hc, hd] at h
  obtain ⟨z, h2, _, h3⟩ := DataW.trod_int ht h
  exact ⟨z, by simpa using h2, h3⟩
theorem field_bool {c : Value} (hs : ∀ (i : Nat) (f : Field), fs[i]? = some f → ∃ n y, DataW.trod enc P w base (fun _ => true) held n f.type ((cs.drop f.offset).take (P.cellsOf f.type)) = some y) (i : Nat) {f : Field} (hi : fs[i]? = some f) (ht : P.underlying f.type = some .bool) (hc : P.cellsOf f.type = 1) (hd : (cs.drop f.offset).take 1 = [c]) :
    ∃ b, c = .bool b := by
  obtain ⟨n, y, h⟩ := hs i f hi
  rw [hc, hd] at h
  obtain ⟨z, h2, _⟩ := DataW.trod_bool ht h
  exact ⟨z, by simpa using h2⟩
theorem field_arr {k : IntKind} {c : Value} {q : Nat} (hs : ∀ (i : Nat) (f : Field), fs[i]? = some f → ∃ n y, DataW.trod enc P w base (fun _ => true) held n f.type ((cs.drop f.offset).take (P.cellsOf f.type)) = some y) (i j : Nat) {f : Field} (hi : fs[i]? = some f) (hj : j < q) (ht : P.underlying f.type = some (.array q e)) (he : P.underlying e = some (.int k)) (hce : P.cellsOf e = 1) (hc : P.cellsOf f.type = q) (hd : (((cs.drop f.offset).take q).drop j).take 1 = [c]) :
    ∃ n, c = .int k n ∧ (Lit.int k n).wf = true := by
  obtain ⟨n, y, h⟩ := hs i f hi
  rw [hc] at h
  obtain ⟨ys, m, -, -, -, hy, hel⟩ := DataW.trod_array ht h
  have h1 := hel j hj
  rw [hce, Nat.mul_one, List.getElem?_eq_getElem (show j < ys.length by omega), hd] at h1
  obtain ⟨z, h2, _, h3⟩ := DataW.trod_int he h1
  exact ⟨z, by simpa using h2, h3⟩
end
end Go.Proofs.Ytlplpmkdebemnaa.Fw
