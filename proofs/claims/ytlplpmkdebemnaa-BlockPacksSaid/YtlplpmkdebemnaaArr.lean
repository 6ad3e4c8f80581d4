/- Whole arrays in blocks: loaded, stored. No conditions. -/
import Derived.Test.YtlplpmkdebemnaaMem
import Derived.Laws.Rows
import Derived.Laws.Tables
namespace Go.Proofs.Ytlplpmkdebemnaa
set_option linter.unusedVariables false
set_option linter.unusedSimpArgs false
open Go.RowKit Bv
/-- Only block g has changed. -/
structure Only (g : Nat) (w w' : World) : Prop where
  os : w'.os = w.os
  tape : w'.tape = w.tape
  output : w'.output = w.output
  size : w'.heap.size = w.heap.size
  block : ∀ k, k ≠ g → w'.heap[k]? = w.heap[k]?
section
variable {w w' : World} {g : Nat} {e : TypeId} {cs : List Value} {P : Program}
theorem Only.below {B : Nat} {w0 : World} (h : Only g w w') (hb : Below B w0 w) (hg : B ≤ g) : Below B w0 w' :=
  ⟨h.os.trans hb.os, h.tape.trans hb.tape, h.output.trans hb.output, h.size ▸ hb.size, fun k hk => (h.block k (by omega)).trans (hb.block k hk)⟩
theorem Blk.only (h : Blk w g e cs) {g' : Nat} (ho : Only g' w w') (hg : g ≠ g') : Blk w' g e cs := (ho.block g hg).trans h
theorem only_setRow (w : World) (g : Nat) (cs : Array Value) : Only g w (w.setRow g cs) := ⟨rfl, rfl, rfl, by simp, fun k hk => setRow_other w g k cs hk⟩
theorem only_setCell (w : World) (g j : Nat) (v : Value) : Only g w (w.setCell ⟨g, j, none⟩ v) :=
  ⟨rfl, rfl, rfl, by simp [World.setCell], fun k hk => Below.heap_setCell w ⟨g, j, none⟩ v k hk⟩
theorem blk_new (w : World) (cs : Array Value) (e : TypeId) (g : Nat) (hg : g = w.heap.size) : Blk (w.alloc (.cells cs e (0, 0))) g e cs.toList := by
  subst hg
  unfold Blk
  rw [heap_alloc_new]
/-- The whole array is loaded. -/
theorem wpList_load_blk {ops : Array Oper} {rest : List Oper} {o : Oper} {a : Act} {Q : Exit → Act → World → Prop} {ty : TypeId} {x : Operand} {n : Nat} {et : TypeId} {cs : List Value} (hgd : o.guard = none) (ho : o.op = .load ty x)
    (hx : a.eval x = .pointer (some ⟨g, 0, none⟩)) (hb : Blk w g e cs) (hu : P.underlying ty = some (.array n et)) (hi : (P.info? ty).map (·.size) = some cs.length)
    (h : wpList P ops Q rest (a.put o.dst (.agg cs.toArray)) w) : wpList P ops Q (o :: rest) a w :=
  wpList_load_row hgd ty x ho g hx e cs.toArray (0, 0) _ hb hu rfl (by simpa using hi) h
/-- The whole array is stored. -/
theorem wpList_store_blk {ops : Array Oper} {rest : List Oper} {o : Oper} {a : Act} {Q : Exit → Act → World → Prop} {ty : TypeId} {x y : Operand} {old cs : List Value} (hgd : o.guard = none) (ho : o.op = .store ty x y)
    (hx : a.eval x = .pointer (some ⟨g, 0, none⟩)) (hy : a.eval y = .agg cs.toArray) (hb : Blk w g e old) (hi : (P.info? ty).map (·.size) = some cs.length) (hl : old.length = cs.length) (h1 : ∀ u ∈ cs, u.oneCell' = true)
    (h : ∀ w', Blk w' g e cs → Only g w w' → wpList P ops Q rest (a.put o.dst undef) w') : wpList P ops Q (o :: rest) a w := by
  refine wpList_store_row hgd ty x y ho g cs.toArray hx hy e old.toArray hb (by simpa using hi) (by simpa using hl) ?_ ?_
  · rw [Array.all_eq_true_iff_forall_mem]
    intro u hu
    exact h1 u (by simpa using hu)
  · exact h _ (setRow_heap w g old.toArray cs.toArray e (0, 0) hb) (only_setRow w g _)
theorem b8s_one (xs : List (BitVec 8)) : ∀ u ∈ xs.map b8, u.oneCell' = true := by
  intro u hu; obtain ⟨x, _, rfl⟩ := List.mem_map.1 hu; rfl
theorem b32s_one (xs : List (BitVec 32)) : ∀ u ∈ xs.map b32, u.oneCell' = true := by
  intro u hu; obtain ⟨x, _, rfl⟩ := List.mem_map.1 hu; rfl
/-- What a function whose result lies in a block answers. -/
theorem results_blk {fn : Func} {p : Tmp} {ty : TypeId} {n : Nat} {et : TypeId} (hr : fn.results = #[.cell p ty]) (tmps : Array Value) (hp : tmps.getD p undef = .pointer (some ⟨g, 0, none⟩)) (hb : Blk w g e cs)
    (hu : P.underlying ty = some (.array n et)) (hi : (P.info? ty).map (·.size) = some cs.length) : (results fn tmps).run P w = .ok (.agg cs.toArray) w :=
  results_cell_row hr tmps w g e cs.toArray (0, 0) _ hp hb hu rfl (by simpa using hi)
/-- A part of a block, from a place on, as a slice that is read. -/
theorem blk_part {k : Nat} {enc : BitVec k → Value} {xs : List (BitVec k)} (h : Blk w g e (xs.map enc)) (o n c : Nat) (hn : o + n ≤ xs.length) (hc : n ≤ c) (hm : c ≤ 9223372036854775807) :
    Rd enc w (some ⟨g, o, none⟩) n c ((xs.drop o).take n) := by
  refine ⟨by simp; omega, hc, hm, (fun h => by cases h), fun ad ea j hj => ?_⟩
  cases ea
  rw [Addr.add_lit, h.cell, List.getElem?_map, List.getElem?_eq_getElem (show o + j < xs.length by omega), ath_take _ _ _ hj, ath_drop, ath_get xs (o + j) (by omega)]
  rfl
theorem blk_cell {k : Nat} {enc : BitVec k → Value} {xs : List (BitVec k)} (h : Blk w g e (xs.map enc)) (j : Nat) (hj : j < xs.length) : w.cell? ⟨g, j, none⟩ = some (enc (ath xs j)) := by
  rw [h.cell, List.getElem?_map, List.getElem?_eq_getElem hj, ath_get xs j hj]
  rfl
theorem blk_set {k : Nat} {enc : BitVec k → Value} {xs : List (BitVec k)} (h : Blk w g e (xs.map enc)) (j : Nat) (v : BitVec k) : Blk (w.setCell ⟨g, j, none⟩ (enc v)) g e ((xs.set j v).map enc) := by
  rw [List.map_set]; exact h.set j (enc v)
/-- An array's slice from l on; from l up to h. -/
theorem sliceAt_from (w : World) (t : TypeId) (g n l : Nat) (et : TypeId) (L : Int) (ht : P.underlying t = some (.array n et)) (hs : (P.info? et).map (·.size) = some 1) (hL : L = (l : Int)) (hl : l < n) :
    (Instr.sliceAt t (.pointer (some ⟨g, 0, none⟩)) (some (.int .i64 L)) none none).run P w = .ok (.slice (some ⟨g, l, none⟩) (n - l) (n - l)) w := by
  subst hL
  obtain ⟨i, hi, hi2⟩ := Option.map_eq_some_iff.1 hs
  have hsz : (sizeOf et).run P w = .ok 1 w := by simp [sizeOf, typeInfo, hi, hi2]
  have h0 : (0 : Int) ≤ (l : Int) := by omega
  have h1 : (l : Int) ≤ (n : Int) := by omega
  simp [Instr.sliceAt, Instr.sureAddr, run_underlying ht, Instr.sliceBounds, run_sliceBound, hsz, h1, Addr.add_lit, show ¬ n = l by omega]
theorem sliceAt_upto (w : World) (t : TypeId) (g n l h : Nat) (et : TypeId) (L H : Int) (ht : P.underlying t = some (.array n et)) (hs : (P.info? et).map (·.size) = some 1) (hL : L = (l : Int)) (hH : H = (h : Int)) (hl : l < n) (hlh : l ≤ h) (hh : h ≤ n) :
    (Instr.sliceAt t (.pointer (some ⟨g, 0, none⟩)) (some (.int .i64 L)) (some (.int .i64 H)) none).run P w = .ok (.slice (some ⟨g, l, none⟩) (h - l) (n - l)) w := by
  subst hL hH
  obtain ⟨i, hi, hi2⟩ := Option.map_eq_some_iff.1 hs
  have hsz : (sizeOf et).run P w = .ok 1 w := by simp [sizeOf, typeInfo, hi, hi2]
  have h0 : (0 : Int) ≤ (l : Int) := by omega
  have h1 : (l : Int) ≤ (n : Int) := by omega
  have h2 : (h : Int) ≤ (n : Int) := by omega
  have h3 : (l : Int) ≤ (h : Int) := by omega
  simp [Instr.sliceAt, Instr.sureAddr, run_underlying ht, Instr.sliceBounds, run_sliceBound, hsz, h1, h2, h3, Addr.add_lit, show ¬ n = l by omega]
/-- The world under a name of its own, with what is known of it. -/
theorem name_world {c : Code} {Q : Exit → Act → World → Prop} {a : Act} (p : World → Prop) (hp : p w) (h : ∀ W, p W → c.wp P Q a W) : c.wp P Q a w := h w hp
theorem name_worldL {ops : Array Oper} {l : List Oper} {Q : Exit → Act → World → Prop} {a : Act} (p : World → Prop) (hp : p w) (h : ∀ W, p W → wpList P ops Q l a W) : wpList P ops Q l a w := h w hp
theorem Only.trans {w'' : World} (h : Only g w w') (k : Only g w' w'') : Only g w w'' :=
  ⟨k.os.trans h.os, k.tape.trans h.tape, k.output.trans h.output, k.size.trans h.size, fun b hb => (k.block b hb).trans (h.block b hb)⟩
theorem Only.drew (h : Only g w w') : Only g w w'.drew := ⟨h.os, h.tape, h.output, h.size, h.block⟩
theorem Only.drewN (h : Only g w w') (m : Nat) : Only g w (w'.drewN m) := ⟨h.os, h.tape, h.output, h.size, h.block⟩
theorem Only.refl (g : Nat) (w : World) : Only g w w := ⟨rfl, rfl, rfl, rfl, fun _ _ => rfl⟩
theorem Only.set (h : Only g w w') (j : Nat) (v : Value) : Only g w (w'.setCell ⟨g, j, none⟩ v) := h.trans (only_setCell w' g j v)
theorem Blk.drew (h : Blk w g e cs) : Blk w.drew g e cs := h
/-- An array is loaded out of a row that is read. -/
theorem wpList_load_rd {k : Nat} {enc : BitVec k → Value} {xs : List (BitVec k)} {ops : Array Oper} {rest : List Oper} {o : Oper} {a : Act} {Q : Exit → Act → World → Prop} {ty : TypeId} {x : Operand} {n c : Nat} {et : TypeId} {ad : Addr} (hgd : o.guard = none) (ho : o.op = .load ty x)
    (hx : a.eval x = .pointer (some ad)) (hr : Rd enc w (some ad) n c xs) (hu : P.underlying ty = some (.array n et)) (hi : (P.info? ty).map (·.size) = some n)
    (h : wpList P ops Q rest (a.put o.dst (.agg (xs.map enc).toArray)) w) : wpList P ops Q (o :: rest) a w := by
  refine wpList_plain hgd fun K hK => ?_
  have hl : (loadCells ad n).run P w = .ok (xs.map enc).toArray w := by
    have := run_loadCells_list (P := P) w ad (xs.map enc) (fun j v hj => by
      have hjl : j < xs.length := by have := (List.getElem?_eq_some_iff.1 hj).1; simpa using this
      rw [hr.cells ad rfl j (by rw [← hr.len]; exact hjl)]
      rw [List.getElem?_map, List.getElem?_eq_getElem hjl, ← ath_get xs j hjl] at hj
      simpa using hj)
    simpa [hr.len] using this
  obtain ⟨i, hq, hs⟩ := Option.map_eq_some_iff.1 hi
  have hagg : (isAgg ty).run P w = .ok true w := by
    unfold isAgg
    rw [Sem.run_bind, run_underlying hu w]
    simp
  have hload : (loadVar ty ad).run P w = .ok (.agg (xs.map enc).toArray) w := by
    simp only [loadVar, Sem.run_bind, hagg, Result.andThen, if_true, sizeOf, typeInfo]
    simp [hq, hs, hl]
  unfold Oper.wp execOp
  simp only [ho, hx, Instr.loadAt, Instr.sureAddr, Sem.run_bind, Sem.run_pure, Result.andThen_ok, hload]
  exact hK _ _ h
end
end Go.Proofs.Ytlplpmkdebemnaa
