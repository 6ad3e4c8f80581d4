/- Walks by facts, part 6: what the functions that the law reaches answer. No conditions but lengths. -/
import Derived.Test.YtlplpmkdebemnaaZBlockPlaces5
import Derived.MapKept
import Derived.Test.YtlplpmkdebemnaaProg
namespace Go.Proofs.Ytlplpmkdebemnaa.Fw
set_option linter.unusedVariables false
set_option linter.unusedSimpArgs false
open Go.RowKit Bv
theorem own_cs {h : List HA} {w : World} (hh : HOK h w) (hb : h.all HA.outB = true) (hr : ∀ x ∈ h, x.rids = []) (hn : (h.flatMap HA.ids).Nodup) : Own (h.flatMap HA.ids) h w := by
  refine ⟨fun y hy => ?_, hh, fun y hy k hk => ?_, hn, fun y hy z hz r hrr => ?_⟩
  · have := List.all_eq_true.1 hb y hy
    cases y <;> first | exact ⟨rfl, rfl⟩ | (cases this; done)
  · have h1 := List.all_eq_true.1 hb y hy
    have h2 := hr y hy
    refine List.mem_flatMap.2 ⟨y, hy, ?_⟩
    cases y <;> first | exact hk | (cases h1; done) | (simp only [HA.rids] at h2; simp only [HA.frs] at hk; rw [h2] at hk; cases hk)
  · rw [hr y hy] at hrr; cases hrr
/-- A block of cells and another object stand apart. -/
theorem own_bo {w : World} {g gm : Nat} {e : TypeId} {cs : List Value} {es : Array MapEntry} {cl : Nat} (hh : HOK [.blk g e cs, .obj gm (.map es cl)] w) : Own [g, gm] [.blk g e cs, .obj gm (.map es cl)] w := by
  refine own_cs hh rfl (fun x hx => ?_) ?_
  · rcases List.mem_cons.1 hx with rfl | hx
    · rfl
    · rw [List.mem_singleton] at hx; subst hx; rfl
  · have h1 : w.heap[g]? = some (.cells cs.toArray e (0, 0)) := hh (.blk g e cs) (by simp)
    have h2 : w.heap[gm]? = some (.map es cl) := hh (.obj gm (.map es cl)) (by simp)
    simp only [List.flatMap_cons, List.flatMap_nil, HA.ids, List.append_nil, List.singleton_append, List.nodup_cons, List.mem_singleton, List.not_mem_nil, not_false_eq_true, List.nodup_nil, and_true]
    intro e; subst e; rw [h1] at h2; cases h2
def rdN : HA → Bool
  | .rd _ z n _ _ => Nat.blt 0 n && Nat.blt 0 z
  | _ => false
/-- A map of the call's own, and rows that are read. -/
theorem own_m {w : World} {gm : Nat} {es : Array MapEntry} {cl : Nat} {rs : List HA} (hh : HOK (.obj gm (.map es cl) :: rs) w) (hb : rs.all rdN = true) : Own [gm] (.obj gm (.map es cl) :: rs) w := by
  have key : ∀ x ∈ rs, ∃ A z n c cs, x = .rd A z n c cs ∧ 0 < n ∧ 0 < z := fun x hx => by
    have := List.all_eq_true.1 hb x hx
    cases x with
    | rd A z n c cs =>
      simp only [rdN, Bool.and_eq_true] at this
      exact ⟨A, z, n, c, cs, rfl, Nat.le_of_ble_eq_true this.1, Nat.le_of_ble_eq_true this.2⟩
    | _ => cases this
  have hm : w.heap[gm]? = some (.map es cl) := hh (.obj gm (.map es cl)) (by simp)
  refine ⟨fun x hx => ?_, hh, fun x hx k hk => ?_, ?_, fun x hx y hy r hr hy2 => ?_⟩
  · rcases List.mem_cons.1 hx with rfl | hx
    · exact ⟨rfl, rfl⟩
    · obtain ⟨A, z, n, c, cs, rfl, _⟩ := key x hx; exact ⟨rfl, rfl⟩
  · rcases List.mem_cons.1 hx with rfl | hx
    · exact hk
    · obtain ⟨A, z, n, c, cs, rfl, _⟩ := key x hx; cases hk
  · have : rs.flatMap HA.ids = [] := List.flatMap_eq_nil_iff.2 fun x hx => by obtain ⟨A, z, n, c, cs, rfl, _⟩ := key x hx; rfl
    simp [HA.ids, this]
  · rcases List.mem_cons.1 hy with rfl | hy
    · rcases List.mem_cons.1 hx with rfl | hx
      · cases hr
      · obtain ⟨A, z, n, c, cs, rfl, hn, hz⟩ := key x hx
        obtain ⟨h1, h2⟩ := hh _ (List.mem_cons_of_mem _ hx)
        obtain ⟨_, ad, rfl, h3⟩ := mem_rid.1 hr
        have hl := h1.len
        have hp : 0 < n * z := Nat.mul_pos hn hz
        have hc := h1.cells ad rfl 0 (cs[0]'(by omega)) (by rw [List.getElem?_eq_getElem])
        have hg : r = gm := by simpa [HA.ids] using hy2
        have hb2 : (ad.add 0).block = gm := by rw [add_block, h3, hg]
        simp [World.cell?, hb2, hm] at hc
    · obtain ⟨A, z, n, c, cs, rfl, _⟩ := key y hy; cases hy2
section
variable {P : Program} {X : Cx} {s : List (Nat × Value)} {h : List HA} {o : Oper} {K K0 J : Jd}
/-- A call to which two held things are handed over. -/
theorem op_c2 {T : Type} {q : T → Prop} {res : T → Value} {hs : T → List HA} {f : FuncId} {c : Operand} {xs : List Operand} {ts : Array TypeId} {vs : List Value} {d : Nat} {x y : HA} (i j : Nat) (hi : h[i]? = some x) (hj : (h.eraseIdx i)[j]? = some y) (hcon : ∀ w, HOK h w → Calls P f vs.toArray w (Ret (x.ids ++ y.ids) w q res hs)) (hf : Go.Proofs.Enters P f)
    (ho : o.op = .call { callee := .value c, args := xs.toArray, argTypes := ts }) (hc : ev s c = some (.func (.func f) #[] #[])) (hx : xs.map (ev s) = vs.map some) (hd : o.dst = some d) (hN : Nat.blt d X.N = true) (hh : ∀ t, q t → Tr X ((d, res t) :: s) (hs t ++ (h.eraseIdx i).eraseIdx j) K) : Tr X s h (Op P o K K0) :=
  op_call (cap := []) (out := [x, y]) (keep := (h.eraseIdx i).eraseIdx j) (by simpa using hcon) ((perm_erase h i x hi).trans ((perm_erase _ j y hj).cons x)) hf ho hc hx hd hN hh
/-- A map is made. -/
theorem op_mkmap {d : Nat} {t : TypeId} (ho : o.op = .makeMap t none) (hd : o.dst = some d) (hN : Nat.blt d X.N = true)
    (hh : ∀ g, Tr X ((d, .map (some g)) :: s) (.obj g (.map #[] 0) :: h) K) : Tr X s h (Op P o K K0) := fun a w st => by
  have hr : (execOp a.eval o).run P w = .ok (.value (.map (some w.heap.size))) (w.alloc (.map #[] 0)) := by
    unfold execOp; rw [ho]
    simp [Instr.makeMap, newObj, Sem.run]
  exact op_val hr (by rw [hd]; exact hh _ _ _ ((st.put (Nat.le_of_ble_eq_true hN) _).newobj _))
/-- Two numbers as a key. -/
theorem run_ckey {w : World} {t e : TypeId} {k : IntKind} {em : Bool} {n : Nat} {u v : Value} (ht : P.underlying t = some (.array 2 e)) (he : P.underlying e = some (.int k)) (hz : (P.info? e).map (·.size) = some 1) : (Instr.checkKey em (n + 2) t (.agg [u, v].toArray)).run P w = .ok () w := by
  have p : ∀ (v' : Value) i, [u, v][i]? = some v' → (part e [u, v].toArray i).run P w = .ok v' w := fun v' i hx => part1 he rfl hx
  have p0 := p u 0 rfl
  have p1 := p v 1 rfl
  rw [Instr.checkKey]
  have c : ∀ (v' : Value), (Instr.checkKey em (n + 1) e v').run P w = .ok () w := fun v' => by
    rw [Instr.checkKey]
    simp [run_underlying he]
  simp only [Sem.run_bind, run_underlying ht, Result.andThen_ok, run_sizeOf hz, Std.Legacy.Range.forIn_eq_forIn_range', Std.Legacy.Range.size, List.range'_succ, List.range', List.forIn_cons, List.forIn_nil, Nat.reduceAdd, Nat.reduceSub, Nat.reduceDiv, Nat.mul_one, Nat.zero_mul, p0, p1, c, Nat.zero_add]
  simp [run_sizeOf hz, p1, c]
/-- Looked up in a map that holds nothing. -/
theorem ld_look0 {x y : Operand} {t kt e et : TypeId} {k : IntKind} {gm : Nat} {u v z : Value} (i : Nat) (hi : h[i]? = some (.obj gm (.map #[] 0))) (ht : P.underlying t = some (.map kt e)) (hk : P.underlying kt = some (.array 2 et)) (he : P.underlying et = some (.int k)) (hs : (P.info? et).map (·.size) = some 1) (hz : (P.info? e).bind (·.zero) = some z)
    (ho : o.op = .lookup t x y true) (hx : ev s x = some (.map (some gm))) (hy : ev s y = some (.agg [u, v].toArray)) : Ld P s h o (.tuple [z, .bool false].toArray) := fun e' he' w hw => by
  have hm : w.heap[gm]? = some (.map #[] 0) := hw _ (List.mem_of_getElem? hi)
  obtain ⟨ti, hti, htz⟩ := Option.bind_eq_some_iff.1 hz
  unfold execOp; rw [ho]
  simp only [he' _ _ hx, he' _ _ hy, Instr.lookup]
  simp only [Sem.run_bind, run_underlying ht, Result.andThen_ok, MapKept.run_getObj_map hm, Sem.run_pure, run_ckey hk he hs, Instr.findKey, run_underlying hk, Instr.findNow]
  simp [zeroValue, typeInfo, hti, htz]
theorem heap_setob (w : World) (g : Nat) (ob old : Obj) (hg : w.heap[g]? = some old) : ({ w with heap := w.heap.setIfInBounds g ob } : World).heap[g]? = some ob := by
  have := (Array.getElem?_eq_some_iff.1 hg).1
  simp [this]
/-- The first entry of a map. -/
theorem op_mapput0 {x y v0 : Operand} {t kt e et : TypeId} {k : IntKind} {gm : Nat} {u v z : Value} (i : Nat) (hi : h[i]? = some (.obj gm (.map #[] 0))) (ht : P.underlying t = some (.map kt e)) (hk : P.underlying kt = some (.array 2 et)) (he : P.underlying et = some (.int k)) (hs : (P.info? et).map (·.size) = some 1)
    (ho : o.op = .mapUpdate t x y v0) (hx : ev s x = some (.map (some gm))) (hy : ev s y = some (.agg [u, v].toArray)) (hv : ev s v0 = some z) (hd : o.dst = none) (hh : ∀ es cl, Tr X s (.obj gm (.map es cl) :: h.eraseIdx i) K) : Tr X s h (Op P o K K0) := fun a w st => by
  have hm : w.heap[gm]? = some (.map #[] 0) := st.ok _ (List.mem_of_getElem? hi)
  have hr : (execOp a.eval o).run P w = .ok .skip { w with heap := w.heap.setIfInBounds gm (.map (#[].push { key := .agg [u, v].toArray, val := z, born := 0 }) (0 + 1)) } := by
    unfold execOp; rw [ho]
    simp only [st.ag _ _ hx, st.ag _ _ hy, st.ag _ _ hv, Instr.mapUpdate]
    simp only [Sem.run_bind, run_underlying ht, Result.andThen_ok, MapKept.run_getObj_map hm, Sem.run_pure, run_ckey hk he hs, Instr.findKey, run_underlying hk, Instr.findNow, MapKept.run_setObj_map _ hm]
  refine op_skp hr hd (hh (#[].push { key := .agg [u, v].toArray, val := z, born := 0 }) (0 + 1) a _ ?_)
  refine st.swap [.obj gm (.map #[] 0)] (h.eraseIdx i) [.obj gm _] (perm_erase h i _ hi) st.sz st.df st.sl ⟨⟨rfl, rfl, rfl, by simp⟩, fun k _ hk => ?_⟩ ?_ ?_ ?_ ?_
  · have : ¬ gm = k := fun e => hk (by simp [HA.ids, e])
    simp [Array.getElem?_setIfInBounds, this]
  · intro x hx; rw [List.mem_singleton] at hx; subst hx; exact heap_setob w gm _ _ hm
  · intro x hx k hk; rw [List.mem_singleton] at hx; subst hx; exact .inl (by simpa [HA.ids, HA.frs] using hk)
  · simp [HA.ids]
  · intro x hx r hr; rw [List.mem_singleton] at hx; subst hx; cases hr
theorem foldl_put : ∀ (vs : List Value) (off j0 : Nat) (cells : Array Value), ((vs.zipIdx j0).foldl (fun (cs : Array Value) (x : Value × Nat) => cs.setIfInBounds (off + x.2) x.1) cells).toList = sets cells.toList (off + j0) vs
  | [], _, _, _ => rfl
  | v :: r, off, j0, cells => by
    rw [List.zipIdx_cons, List.foldl_cons, foldl_put r off (j0 + 1)]
    simp [sets, Nat.add_assoc]
theorem jm_take2 {xs : List (BitVec 8)} {v : Value} : (xs.map b8 ++ [v]).take (xs.map b8).length = xs.map b8 := List.take_left
/-- A struct of two parts. -/
theorem run_build2 {w : World} {t : TypeId} {f0 f1 : Field} {z vx vy : Value} {xs ys : List Value} {n m : Nat} (ht : P.underlying t = some (.struct #[f0, f1])) (hz : (P.info? t).bind (·.zero) = some z) (hzl : z.cells.size = n + m) (h0 : f0.offset = 0) (h1 : f1.offset = n) (hn : (P.info? f0.type).map (·.size) = some n) (hm : (P.info? f1.type).map (·.size) = some m)
    (hx : vx.cells.toList = xs) (hy : vy.cells.toList = ys) (hxl : xs.length = n) (hyl : ys.length = m) : (Instr.build t #[(0, vx), (1, vy)]).run P w = .ok (.agg (xs ++ ys).toArray) w := by
  obtain ⟨ti, hti, htz⟩ := Option.bind_eq_some_iff.1 hz
  have sx : vx.cells.size = n := by rw [← Array.length_toList, hx, hxl]
  have sy : vy.cells.size = m := by rw [← Array.length_toList, hy, hyl]
  have fx : ∀ c : Array Value, (vx.cells.zipIdx.foldl (fun (cs : Array Value) (x : Value × Nat) => cs.setIfInBounds (0 + x.2) x.1) c).toList = sets c.toList 0 xs := fun c => by
    rw [← Array.foldl_toList, Array.toList_zipIdx, hx]
    exact foldl_put xs 0 0 c
  have fy : ∀ c : Array Value, (vy.cells.zipIdx.foldl (fun (cs : Array Value) (x : Value × Nat) => cs.setIfInBounds (n + x.2) x.1) c).toList = sets c.toList n ys := fun c => by
    rw [← Array.foldl_toList, Array.toList_zipIdx, hy]
    exact foldl_put ys n 0 c
  generalize hc1 : vx.cells.zipIdx.foldl (fun (cs : Array Value) (x : Value × Nat) => cs.setIfInBounds (0 + x.2) x.1) z.cells = c1
  generalize hc2 : vy.cells.zipIdx.foldl (fun (cs : Array Value) (x : Value × Nat) => cs.setIfInBounds (n + x.2) x.1) c1 = c2
  have l1 : c1.toList = sets z.cells.toList 0 xs := by rw [← hc1]; exact fx _
  have l2 : c2.toList = sets c1.toList n ys := by rw [← hc2]; exact fy _
  have zl : z.cells.toList.length = n + m := by simpa using hzl
  have s1 : c1.size = n + m := by rw [← Array.length_toList, l1, sets_len, zl]
  have e1 := sets_take xs z.cells.toList 0 (by omega)
  have e2 := sets_take ys c1.toList n (by rw [l1, sets_len, zl, hyl]; exact Nat.le_refl _)
  rw [← l1, Nat.zero_add, hxl] at e1
  rw [← l2, e1, hyl] at e2
  have hc : c2 = (xs ++ ys).toArray := by
    apply Array.toList_inj.1
    have : c2.toList.length = n + m := by rw [l2, sets_len, Array.length_toList, s1]
    rw [List.take_of_length_le (by omega)] at e2
    rw [e2]; simp
  have hp : (#[f0, f1].mapM fun (f : Field) => (do pure (f.offset, ← sizeOf f.type) : Sem (Nat × Nat))).run P w = .ok #[(0, n), (n, m)] w := by
    simp [run_sizeOf hn, run_sizeOf hm, h0, h1]
  have hz0 : (zeroValue t).run P w = .ok z w := by simp [zeroValue, typeInfo, hti, htz]
  unfold Instr.build
  rw [Sem.run_bind, hz0, Result.andThen_ok, Sem.run_bind, run_underlying ht, Result.andThen_ok]
  show ((do let places ← #[f0, f1].mapM fun (f : Field) => (do pure (f.offset, ← sizeOf f.type) : Sem (Nat × Nat)); _ : Sem Value)).run P w = _
  rw [Sem.run_bind, hp, Result.andThen_ok]
  have hf : Instr.fill (fun x => (#[(0, n), (n, m)] : Array (Nat × Nat))[x]?) z.cells [(0, vx), (1, vy)] = some c2 := by
    rw [Instr.fill]
    show (if (decide (vx.cells.size ≠ n) || decide (0 + vx.cells.size > z.cells.size)) = true then none else _) = _
    rw [if_neg (by simp [sx, hzl])]
    show Instr.fill _ (vx.cells.zipIdx.foldl (fun (cs : Array Value) (x : Value × Nat) => cs.setIfInBounds (0 + x.2) x.1) z.cells) [(1, vy)] = _
    rw [hc1, Instr.fill]
    show (if (decide (vy.cells.size ≠ m) || decide (n + vy.cells.size > c1.size)) = true then none else _) = _
    rw [if_neg (by simp [sy, s1])]
    show Instr.fill _ (vy.cells.zipIdx.foldl (fun (cs : Array Value) (x : Value × Nat) => cs.setIfInBounds (n + x.2) x.1) c1) [] = _
    rw [hc2]; rfl
  show ((match Instr.fill (fun x => (#[(0, n), (n, m)] : Array (Nat × Nat))[x]?) z.cells [(0, vx), (1, vy)] with | some cells => pure (Value.agg cells) | _ => stuck "build: no such field, or a part of the wrong size" : Sem Value)).run P w = _
  rw [hf, hc]; rfl
theorem run_build2b {w : World} {t : TypeId} {f0 f1 : Field} {z : Value} {a b : List (BitVec 8)} {n m : Nat} (ht : P.underlying t = some (.struct #[f0, f1])) (hz : (P.info? t).bind (·.zero) = some z) (hzl : z.cells.size = n + m) (h0 : f0.offset = 0) (h1 : f1.offset = n) (hn : (P.info? f0.type).map (·.size) = some n) (hm : (P.info? f1.type).map (·.size) = some m)
    (hxl : a.length = n) (hyl : b.length = m) : (Instr.build t #[(0, .agg (a.map b8).toArray), (1, .agg (b.map b8).toArray)]).run P w = .ok (.agg ((a ++ b).map b8).toArray) w := by
  rw [List.map_append]
  exact run_build2 ht hz hzl h0 h1 hn hm rfl rfl (by simpa using hxl) (by simpa using hyl)
theorem run_build2m {w : World} {t : TypeId} {f0 f1 : Field} {z : Value} {a : List (BitVec 8)} {g n : Nat} (ht : P.underlying t = some (.struct #[f0, f1])) (hz : (P.info? t).bind (·.zero) = some z) (hzl : z.cells.size = n + 1) (h0 : f0.offset = 0) (h1 : f1.offset = n) (hn : (P.info? f0.type).map (·.size) = some n) (hm : (P.info? f1.type).map (·.size) = some 1)
    (hxl : a.length = n) : (Instr.build t #[(0, .agg (a.map b8).toArray), (1, Value.map (some g))]).run P w = .ok (.agg (a.map b8 ++ [Value.map (some g)]).toArray) w :=
  run_build2 ht hz hzl h0 h1 hn hm rfl rfl (by simpa using hxl) rfl
theorem jm_at {xs : List (BitVec 8)} {v : Value} (h : xs.length = 32) : (xs.map b8 ++ [v])[32]? = some v := by
  rw [List.getElem?_append_right (by simp [h])]; simp [h]
theorem jm_take {xs : List (BitVec 8)} {v : Value} : ((xs.map b8 ++ [v]).drop 0).take (xs.map b8).length = xs.map b8 := by
  rw [List.drop_zero, List.take_left]
end
end Go.Proofs.Ytlplpmkdebemnaa.Fw
namespace Go.Proofs.Ytlplpmkdebemnaa
set_option linter.unusedVariables false
set_option linter.unusedSimpArgs false
set_option linter.unnecessarySimpa false
set_option maxRecDepth 100000
open Go.RowKit Bv Fw

/-- The key that is made of another one, for an end. -/
def kof (job info : List (BitVec 8)) : List (BitVec 8) := hkdf (mactag [] job) info 32
theorem kof_def (job info : List (BitVec 8)) : hkdf (mactag [] job) info 32 = kof job info := rfl
theorem kof_len (job info : List (BitVec 8)) : (kof job info).length = 32 := hkdf_len _ _ _ (by omega)
attribute [irreducible] kof
/-- The nonce of two numbers. -/
def nonc (a i : BitVec 64) : List (BitVec 8) := lowb a 8 ++ lowb i 4
theorem nonc_def (a i : BitVec 64) : lowb a 8 ++ lowb i 4 = nonc a i := rfl
theorem nonc_len (a i : BitVec 64) : (nonc a i).length = 12 := by unfold nonc; rw [List.length_append, lowb_len, lowb_len]
attribute [irreducible] nonc
theorem eights_one (a : BitVec 64) : (eights [a]).length = 8 := eights_len _
theorem eights_two (a b : BitVec 64) : (eights [a, b]).length = 16 := eights_len _
theorem eights_three (a b c : BitVec 64) : (eights [a, b, c]).length = 24 := eights_len _
theorem eights_six (a b c d e f : BitVec 64) : (eights [a, b, c, d, e, f]).length = 48 := eights_len _
theorem txt_next {cur : List Value} {n n' c : Nat} {fr : Nat × Nat} {zs zs' : List (BitVec 8)} (h : Txt cur n c fr zs) (hn : n = n') (hz : zs = zs') : Txt cur n' c fr zs' := hn ▸ hz ▸ h

set_option maxHeartbeats 4000000 in
theorem keights_seq (xs : List (BitVec 64)) (A : Option Addr) (n : Nat) (c : Nat) (g1 : Nat) (hx : xs.length = n) (hn : n ≤ 1000000) : SeqC (Θ := Option Addr × Nat) Try.prog 95 [(.pointer (some ⟨g1, 0, none⟩))] [.rd (some ⟨g1, 0, none⟩) 1 1 1 [(.slice A n c)], .rd A 1 n c (xs.map b64)] n (fun k ⟨B, d⟩ => [(.slice B 8 d)]) (fun k ⟨B, d⟩ => [.rd B 1 8 d ((lowb (ath xs k) 8).map b8)]) := by
 have hF : Wid Fence.wide := wid_wide
 refine enter_seq (c := _) Try.func95 rfl (by rw [Try.ntmps95]; rfl) rfl ?_
 intro l J Jx W O R hsJ hsX hy hend
 rw [Try.ntmps95]
 refine T_re [(0, (.func (.yield l) #[] #[])), (1, (.pointer (some ⟨g1, 0, none⟩)))] (sc rfl (sc rfl sn)) ?_
 refine T_he [0, 1, 2] [.inv W.heap.size O R (J 0 O R), .rd (some ⟨g1, 0, none⟩) 1 1 1 [(.slice A n c)], .rd A 1 n c (xs.map b64)] ⟨by decide, rfl⟩ ?_
 refine Tsr hF rfl ?_
 refine lq rfl (ld_rdb (src_rd 1 rfl) rfl Try.underlying69 rfl rfl rfl) rfl rfl ?_
 refine lo rfl (pr_len_sl Try.underlying69 rfl rfl) rfl rfl ?_
 refine lm rfl rfl rfl rfl rfl ?_
 refine L_nil ?_
 refine T_block ?_
 refine T_loop (T := Nat × List Nat × List Nat) (fun ⟨k, O, R⟩ => k ≤ n) (fun ⟨k, O, R⟩ => [(0, (.func (.yield l) #[] #[])), (5, (.slice A n c)), (6, (.int .i64 ((n : Nat) : Int))), (7, (.int .i64 ((k : Nat) : Int)))]) (fun ⟨k, O, R⟩ => [.inv W.heap.size O R (J k O R), .rd (some ⟨g1, 0, none⟩) 1 1 1 [(.slice A n c)], .rd A 1 n c (xs.map b64)]) (fun ⟨k, O, R⟩ => n - k) (0, O, R) (by first | trivial | ((try dsimp only); first | omega | (refine ⟨?_, ?_⟩ <;> omega) | (refine ⟨?_, ?_, ?_⟩ <;> omega) | (simp; done) | (simp; omega))) (sc rfl (sc rfl (sc rfl (sc rfl sn)))) [0, 1, 2] ⟨by decide, rfl⟩ ?_
 rintro ⟨k, O, R⟩ hp
 have hp : k ≤ n := hp
 refine T_re [(0, (.func (.yield l) #[] #[])), (5, (.slice A n c)), (6, (.int .i64 ((n : Nat) : Int))), (7, (.int .i64 ((k : Nat) : Int)))] (sc rfl (sc rfl (sc rfl (sc rfl sn)))) ?_
 refine T_he [0, 1, 2] [.inv W.heap.size O R (J k O R), .rd (some ⟨g1, 0, none⟩) 1 1 1 [(.slice A n c)], .rd A 1 n c (xs.map b64)] ⟨by decide, rfl⟩ ?_
 refine Tsr hF rfl ?_
 refine lo rfl (pr_cmp (bo := .lss) (nc_lt (a := k) (b := n)) rfl rfl rfl rfl) rfl rfl ?_
 refine L_nil ?_
 refine T_seq ?_
 refine T_cond (decide (k < n)) rfl (fun hc_1 => ?_) (fun hc_1 => ?_)
 ·
  have hc_1 := of_decide_eq_true hc_1
  refine T_skip ?_
  refine T_seq ?_
  refine T_block ?_
  refine Tsr hF rfl ?_
  refine lo rfl (pr_ixs1 (j := k) (src_none (src_rd 2 rfl)) sd Try.underlying69 kr rfl rfl rfl) rfl rfl ?_
  refine lq rfl (ld_src (m := k) (src_rd 2 rfl) (get64 sd) Try.underlying30 rfl rfl rfl) rfl rfl ?_
  refine la rfl rfl rfl rfl rfl ?_
  refine L_nil ?_
  refine T_seq ?_
  refine T_regI ?_
  refine LI_opP hF rfl rfl (op_pr (pr_move rfl rfl) rfl rfl ?_)
  refine LI_opP hF rfl rfl (op_pr (pr_move rfl rfl) rfl rfl ?_)
  refine LI_opP hF rfl rfl (op_bslice (e := 30) (zs := [(b64 (ath xs k))]) (qs := [(0, (b64 (ath xs k)))]) (fun _ => by kernel_rfl) rfl rfl rfl rfl (fun g2 => ?_))
  refine LI_opP hF rfl rfl (op_cn (fun w hw => eights_f [(ath xs k)] (some ⟨g2, 0, none⟩) 1 1 w (hok_cons ((src_full (z := 1) 0 rfl rfl sd sd) w hw) (hok_nil w)) (by first | rfl | assumption | omega | (simp; done) | (simp; omega)) sd) (enters_of Try.func77 kr rfl) rfl rfl rfl rfl rfl (fun t3 q4 => ?_))
  obtain ⟨B5, d6⟩ := t3
  refine T_slot 14 (.slice B5 (8 * 1) d6) (.slice B5 8 d6) rfl (by congr 1) ?_
  refine T_as 0 _ (.row (.slice B5 8 d6) 5 1 8 ((lowb (ath xs k) 8).map b8)) rfl (by first | (rw [eib_one]; done) | (rw [eib_one]; rfl)) ?_
  refine T_old 0 rfl ?_
  refine T_tord 0 rfl ?_
  refine LI_op rfl (op_yield (k := k) ((B5 : Option Addr), (d6 : Nat)) hy sd hsJ hsX 2 rfl [0] rfl rfl rfl rfl rfl rfl rfl rfl rfl (fun _ => trivial) (fun O7 R8 => ?_) (fun O9 R10 => ?_))
  ·
   refine LI_opP hF rfl rfl (op_pr (pr_un (v := .bool false) rfl rfl rfl) rfl rfl ?_)
   refine LI_nil ?_
   refine T_cond_f rfl ?_
   refine T_skip ?_
   refine T_reg hF rfl ?_
   refine lo rfl (pr_add (na_i64 (a := k) (b := 1) sd) rfl rfl rfl) rfl rfl ?_
   refine lm rfl rfl rfl rfl rfl ?_
   refine L_nil ?_
   exact T_again (k + 1, O7, R8) (by first | trivial | ((try dsimp only); first | omega | (refine ⟨?_, ?_⟩ <;> omega) | (refine ⟨?_, ?_, ?_⟩ <;> omega) | (simp; done) | (simp; omega))) (by first | trivial | ((try dsimp only); first | omega | (refine ⟨?_, ?_⟩ <;> omega) | (refine ⟨?_, ?_, ?_⟩ <;> omega) | (simp; done) | (simp; omega))) (sc rfl (sc rfl (sc rfl (sc rfl sn)))) [0, 3, 4] ⟨by decide, rfl⟩
  ·
   refine LI_opP hF rfl rfl (op_pr (pr_un (v := .bool true) rfl rfl rfl) rfl rfl ?_)
   refine LI_nil ?_
   refine T_cond_t rfl ?_
   refine T_ret ?_
   exact T_finX rfl rfl 0 rfl
 ·
  have hc_1 := of_decide_eq_false hc_1
  refine T_exit rfl ?_
  obtain rfl : k = n := by omega
  exact T_finJ rfl rfl 0 rfl
set_option maxHeartbeats 4000000 in
theorem keights_f (A : Option Addr) (n : Nat) (c : Nat) (w : World) (hO : HOK [] w)  : Calls Try.prog 82 [(.slice A n c)].toArray w (Ret (T := Nat) [] w (fun g1 => True) (fun g1 => (.func (.func 95) #[] [(.pointer (some ⟨g1, 0, none⟩))].toArray)) (fun g1 => [.old (some ⟨g1, 0, none⟩) 1 1 1 [(.slice A n c)]])) := by
 have hF : Wid Fence.wide := wid_wide
 refine enter (c := _) Try.func82 rfl [] _ [] (by rw [Try.ntmps82]; rfl) (own_rds hO rfl) ?_
 rw [Try.ntmps82]
 refine T_re [(0, (.slice A n c))] (sc rfl sn) ?_
 refine T_he [] [] ⟨by decide, rfl⟩ ?_
 refine Tsr hF rfl ?_
 refine L_op rfl (op_box (zs := [(.slice A n c)]) rfl rfl rfl rfl rfl (fun g1 => ?_))
 refine la rfl rfl rfl rfl rfl ?_
 refine L_nil ?_
 refine Tsr hF rfl ?_
 refine lo rfl (pr_mkfn (us := []) (vs := [(.pointer (some ⟨g1, 0, none⟩))]) rfl rfl rfl) rfl rfl ?_
 refine la rfl rfl rfl rfl rfl ?_
 refine L_nil ?_
 refine T_ret ?_
 refine T_oldb 0 (zs := [(.slice A n c)]) 0 1 1 1 rfl rfl rfl sd sd ?_
 exact T_fin g1 (by first | trivial | omega | (simp; done)) (res1 rfl rfl) [0] ⟨by decide, rfl⟩ rfl
set_option maxHeartbeats 4000000 in
theorem kinfo_f (wd : List (BitVec 8)) (nw : Nat) (xs : List (BitVec 64)) (A : Option Addr) (n : Nat) (c : Nat) (w : World) (hO : HOK [.rd A 1 n c (xs.map b64)] w) (hnw : wd.length = nw) (hw : nw ≤ 100) (hx : xs.length = n) (hn : n ≤ 100) : Calls Try.prog 71 [(.string (sob wd)), (.slice A n c)].toArray w (Ret (T := Option Addr × Nat) [] w (fun ⟨B, d⟩ => True) (fun ⟨B, d⟩ => (.slice B (nw + 8 * n) d)) (fun ⟨B, d⟩ => [.old B 1 (nw + 8 * n) d ((wd ++ eights xs).map b8)])) := by
 have hF : Wid Fence.wide := wid_wide
 refine enter_m (c := _) Try.func71 rfl [] _ [.rd A 1 n c (xs.map b64)] (by rw [Try.ntmps71]; rfl) (own_rds hO rfl) ?_
 rw [Try.ntmps71]
 refine T_re [(0, (.string (sob wd))), (1, (.slice A n c))] (sc rfl (sc rfl sn)) ?_
 refine T_he [0] [.rd A 1 n c (xs.map b64)] ⟨by decide, rfl⟩ ?_
 refine Tsr hF rfl ?_
 refine la rfl rfl rfl rfl rfl ?_
 refine L_nil ?_
 refine Tsr hF rfl ?_
 refine lm rfl rfl rfl rfl rfl ?_
 refine L_op rfl (op_s2b (xs := wd) Try.underlying9 Try.underlying23 Try.underlying5 sd rfl rfl rfl rfl (fun g1 C2 cu3 fr4 hT_5 => ?_))
 replace hT_5 : Txt cu3 wd.length C2 fr4 wd := hT_5
 replace hT_5 : Txt cu3 nw C2 fr4 wd := txt_as hT_5 hnw rfl
 refine T_slot 8 (.slice (some ⟨g1, 0, none⟩) wd.length C2) (.slice (some ⟨g1, 0, none⟩) nw C2) rfl (by rw [hnw]) ?_
 refine L_op rfl (op_alloc (z := (.slice none 0 0)) (zs := [(.slice none 0 0)]) kr rfl rfl rfl rfl (fun g6 => ?_))
 refine L_op rfl (op_store (vs := [(.slice (some ⟨g1, 0, none⟩) nw C2)]) (cs' := [(.slice (some ⟨g1, 0, none⟩) nw C2)]) 0 rfl rfl kr (one_one rfl) (by first | decide | simp | exact Nat.le_refl _) rfl rfl rfl rfl rfl ?_)
 refine L_nil ?_
 refine T_seq ?_
 refine Tsr hF rfl ?_
 refine lm rfl rfl rfl rfl rfl ?_
 refine L_op rfl (op_cn (fun w hw => keights_f A n c w (hok_nil w) ) (enters_of Try.func82 kr rfl) rfl rfl rfl rfl rfl (fun t7 q8 => ?_))
 obtain ⟨g1_9, eg1_9⟩ : ∃ x, x = t7 := ⟨_, rfl⟩
 subst eg1_9
 refine L_nil ?_
 refine T_block ?_
 refine T_tord 0 rfl ?_
 refine T_as 1 _ (.blk g6 23 [(.slice (some ⟨g1, 0, none⟩) (nw + 8 * 0) C2)]) rfl (by congr 1) ?_
 refine T_range (Θ := Option Addr × Nat) (T := Nat × Nat × List Value × Nat × Nat) (Tx := Unit) (cap := [(.pointer (some ⟨g1_9, 0, none⟩))]) (ps := [11]) (keights_seq xs A n c g1_9 sd sd) rfl (enters_of Try.func95 kr rfl) (fun k ⟨tg, tc, tu, tf⟩ => k ≤ n ∧ Txt tu (nw + 8 * k) tc tf (wd ++ eights (xs.take k))) (fun k ⟨tg, tc, tu, tf⟩ => [.rd (some ⟨g1_9, 0, none⟩) 1 1 1 [(.slice A n c)], .blk g6 23 [(.slice (some ⟨tg, 0, none⟩) (nw + 8 * k) tc)], .obj tg (.cells tu.toArray 5 tf), .rd A 1 n c (xs.map b64)]) (fun _ => False) (fun _ => []) 0 (g1, C2, cu3, fr4) (⟨Nat.zero_le _, txt_next hT_5 (by omega) (by rw [List.take_zero, eights, List.append_nil])⟩) [1, 0, 2, 3] ⟨by decide, rfl⟩ [1, 3] rfl rfl (fun _ _ => rfl) (fun _ => rfl) (fun _ _ => rfl) (fun _ _ => rfl) rfl (fun _ => trivial) ?_ ?_ ?_
 ·
  intro C2 w2 lo2 rs2 l D m k t th rc hrec hk hp
  obtain ⟨tg, tc, tu, tf⟩ := t
  obtain ⟨B, d⟩ := th
  have hp : k ≤ n ∧ Txt tu (nw + 8 * k) tc tf (wd ++ eights (xs.take k)) := hp
  have hk : k < n := hk
  have hkn : k ≤ n := hp.1
  have hF : Wid (Fence.wide.inRound l) := wid_round l
  refine T_re [(5, (.pointer (some ⟨g6, 0, none⟩))), (11, (.slice B 8 d))] (sc rfl (sc rfl sn)) ?_
  refine T_he [0, 1, 2, 3, 4, 5, 6] [.rd B 1 8 d ((lowb (ath xs k) 8).map b8), .obj l (.loop rc), .obj D (.deferred (some [])), .rd (some ⟨g1_9, 0, none⟩) 1 1 1 [(.slice A n c)], .blk g6 23 [(.slice (some ⟨tg, 0, none⟩) (nw + 8 * k) tc)], .obj tg (.cells tu.toArray 5 tf), .rd A 1 n c (xs.map b64)] ⟨by decide, rfl⟩ ?_
  refine T_reg hF rfl ?_
  refine la rfl rfl rfl rfl rfl ?_
  refine L_nil ?_
  refine T_begun 1 rfl hrec ?_
  refine T_block ?_
  refine T_reg hF rfl ?_
  refine lq rfl (ld_blk 4 rfl rfl Try.underlying23 rfl rfl rfl) rfl rfl ?_
  refine lm rfl rfl rfl rfl rfl ?_
  refine L_op rfl (op_app_obj (news := (lowb (ath xs k) 8)) 5 rfl hp.2 Try.underlying23 kr (src_rd 1 rfl) sd rfl rfl rfl rfl rfl (fun g10 C11 cu12 fr13 hT_14 => ?_))
  refine L_op rfl (op_store (vs := [(.slice (some ⟨g10, 0, none⟩) (nw + 8 * k + 8) C11)]) (cs' := [(.slice (some ⟨g10, 0, none⟩) (nw + 8 * k + 8) C11)]) 5 rfl rfl kr (one_one rfl) (by first | decide | simp | exact Nat.le_refl _) rfl rfl rfl rfl rfl ?_)
  refine L_nil ?_
  refine T_as 0 _ (.blk g6 23 [(.slice (some ⟨g10, 0, none⟩) (nw + 8 * (k + 1)) C11)]) rfl (by congr 1) ?_
  exact T_on (g10, C11, cu12, fr13) (⟨by omega, txt_next (by assumption) (by omega) (by rw [eights_take _ _ (by omega), List.append_assoc])⟩) [2, 4, 5, 0, 1, 6] ⟨by decide, rfl⟩
 ·
  intro D t hp
  obtain ⟨tg, tc, tu, tf⟩ := t
  have hp : n ≤ n ∧ Txt tu (nw + 8 * n) tc tf (wd ++ eights (xs.take n)) := hp
  refine T_re [(5, (.pointer (some ⟨g6, 0, none⟩)))] (sc rfl sn) ?_
  refine T_he [0, 1, 2, 3, 4] [.obj D (.deferred (some [])), .rd (some ⟨g1_9, 0, none⟩) 1 1 1 [(.slice A n c)], .blk g6 23 [(.slice (some ⟨tg, 0, none⟩) (nw + 8 * n) tc)], .obj tg (.cells tu.toArray 5 tf), .rd A 1 n c (xs.map b64)] ⟨by decide, rfl⟩ ?_
  refine Tsr hF rfl ?_
  refine lq rfl (ld_blk 2 rfl rfl Try.underlying23 rfl rfl rfl) rfl rfl ?_
  refine la rfl rfl rfl rfl rfl ?_
  refine L_nil ?_
  refine T_ret ?_
  refine T_objold 3 rfl hp.2 (Txt.zlen hp.2) ?_
  refine T_as 0 _ (.old (some ⟨tg, 0, none⟩) 1 (nw + 8 * n) tc ((wd ++ eights xs).map b8)) rfl (by rw [List.take_of_length_le (by omega)]) ?_
  exact T_finM 1 rfl (some ⟨tg, 0, none⟩, tc) (by first | trivial | omega | (simp; done)) (res1 rfl rfl) [0] ⟨by decide, rfl⟩ rfl
 ·
  exact fun D t hq => hq.elim
set_option maxHeartbeats 4000000 in
theorem kplace_f (job : List (BitVec 8)) (pp : BitVec 64) (pr : BitVec 64) (pa : BitVec 64) (pt : BitVec 64) (pi : BitVec 64) (w : World) (hO : HOK [] w) (hj : job.length = 32) : Calls Try.prog 67 [(.agg (job.map b8).toArray), (.agg [(.int .i64 (i64 pp)), (.int .i64 (i64 pr)), (.int .i64 (i64 pa)), (b64 pt), (.int .i64 (i64 pi))].toArray)].toArray w (Ret (T := Unit) [] w (fun _ => True) (fun _ => (.agg ((kof job ([112#8, 108#8, 97#8, 99#8, 101#8] ++ eights [pp, pr, pa])).map b8).toArray)) (fun _ => [])) := by
 have hil : (([112#8, 108#8, 97#8, 99#8, 101#8] ++ eights [pp, pr, pa])).length = 29 := by rw [List.length_append, eights_three]; rfl
 have hkl := kof_len job ([112#8, 108#8, 97#8, 99#8, 101#8] ++ eights [pp, pr, pa])
 have hF : Wid Fence.wide := wid_wide
 refine enter (c := _) Try.func67 rfl [] _ [] (by rw [Try.ntmps67]; rfl) (own_rds hO rfl) ?_
 rw [Try.ntmps67]
 refine T_re [(0, (.agg (job.map b8).toArray)), (1, (.agg [(.int .i64 (i64 pp)), (.int .i64 (i64 pr)), (.int .i64 (i64 pa)), (b64 pt), (.int .i64 (i64 pi))].toArray))] (sc rfl (sc rfl sn)) ?_
 refine T_he [] [] ⟨by decide, rfl⟩ ?_
 refine Tsr hF rfl ?_
 refine L_op rfl (op_box (zs := (job.map b8)) rfl rfl rfl rfl rfl (fun g1 => ?_))
 refine L_op rfl (op_box (zs := [(.int .i64 (i64 pp)), (.int .i64 (i64 pr)), (.int .i64 (i64 pa)), (b64 pt), (.int .i64 (i64 pi))]) rfl rfl rfl rfl rfl (fun g2 => ?_))
 refine L_op rfl (op_alloc (z := .agg ((List.replicate 32 0#8).map b8).toArray) (zs := ((List.replicate 32 0#8).map b8)) kr rfl rfl rfl rfl (fun g3 => ?_))
 refine L_nil ?_
 refine T_seq ?_
 refine T_regD [.blk g3 50 ((List.replicate 32 0#8).map b8), .blk g2 59 [(.int .i64 (i64 pp)), (.int .i64 (i64 pr)), (.int .i64 (i64 pa)), (b64 pt), (.int .i64 (i64 pi))], .blk g1 50 (job.map b8)] 13 14 #[false, false, false, false, false, false, false, false, false, false, false, false, false, false] hF kr kr ?_
 refine D_pure (i := 0) [0, 1, 2] rfl kr rfl (pr_sla (l := 0) (u := 32) (m := 0) sd sd sd rfl Try.underlying50 (z := 1) kr rfl rfl rfl rfl) (.inr rfl) rfl rfl ?_
 refine D_pure (i := 1) [0, 1, 2] rfl kr rfl (pr_fa (m := 0) (m' := 0) (z := 0) (by rfl) Try.underlying59 rfl kr rfl rfl) (.inr rfl) rfl rfl ?_
 refine D_pure (i := 4) [0, 1, 2] rfl kr rfl (pr_fa (m := 0) (m' := 1) (z := 0) (by rfl) Try.underlying59 rfl kr rfl rfl) (.inr rfl) rfl rfl ?_
 refine D_pure (i := 7) [0, 1, 2] rfl kr rfl (pr_fa (m := 0) (m' := 2) (z := 0) (by rfl) Try.underlying59 rfl kr rfl rfl) (.inr rfl) rfl rfl ?_
 refine D_take (i := 2) [0, 1, 2] rfl kr rfl (ld_blk 1 rfl rfl Try.underlying3 rfl rfl rfl) rfl rfl rfl ?_
 refine D_pure (i := 3) [0, 1, 2] rfl kr rfl (pr_cv (zc_i64u pp) Try.underlying3 Try.underlying30 rfl rfl) (.inr rfl) rfl rfl ?_
 refine D_take (i := 5) [0, 1, 2] rfl kr rfl (ld_blk 1 rfl rfl Try.underlying3 rfl rfl rfl) rfl rfl rfl ?_
 refine D_pure (i := 6) [0, 1, 2] rfl kr rfl (pr_cv (zc_i64u pr) Try.underlying3 Try.underlying30 rfl rfl) (.inr rfl) rfl rfl ?_
 refine D_take (i := 8) [0, 1, 2] rfl kr rfl (ld_blk 1 rfl rfl Try.underlying3 rfl rfl rfl) rfl rfl rfl ?_
 refine D_pure (i := 9) [0, 1, 2] rfl kr rfl (pr_cv (zc_i64u pa) Try.underlying3 Try.underlying30 rfl rfl) (.inr rfl) rfl rfl ?_
 refine D_one 10 _ rfl kr rfl (op_bslice (e := 30) (zs := [(b64 pp), (b64 pr), (b64 pa)]) (qs := [(0, (b64 pp)), (1, (b64 pr)), (2, (b64 pa))]) (fun _ => by kernel_rfl) rfl rfl rfl rfl (fun g4 => ?_))
 refine D_on [1, 2, 3] rfl ?_
 refine D_one 11 _ rfl kr rfl (op_cn (fun w hw => kinfo_f [112#8, 108#8, 97#8, 99#8, 101#8] 5 [pp, pr, pa] (some ⟨g4, 0, none⟩) 3 3 w (hok_cons ((src_full (z := 1) 0 rfl rfl sd sd) w hw) (hok_nil w)) (by first | rfl | (simp; done)) sd sd sd) (enters_of Try.func71 kr rfl) rfl rfl kr rfl rfl (fun t5 q6 => ?_))
 obtain ⟨B7, d8⟩ := t5
 refine T_slot 16 (.slice B7 (5 + 8 * 3) d8) (.slice B7 29 d8) rfl (by congr 1) ?_
 refine T_as 0 _ (.old B7 1 29 d8 (([112#8, 108#8, 97#8, 99#8, 101#8] ++ eights [pp, pr, pa]).map b8)) rfl rfl ?_
 refine D_on [2, 3, 4] rfl ?_
 refine D_one 12 _ rfl kr rfl (op_cn (fun w hw => key_f [] none 0 0 job (some ⟨g1, 0, none⟩) 32 32 ([112#8, 108#8, 97#8, 99#8, 101#8] ++ eights [pp, pr, pa]) B7 29 d8 w (hok_cons ((src_nil 1) w hw) (hok_cons ((src_full (z := 1) 4 rfl sd sd sd) w hw) (hok_cons ((src_old 0 rfl) w hw) (hok_nil w)))) (by first | assumption | omega | (simp; done) | (simp; omega)) sd (by first | assumption | omega | (simp; done) | (simp; omega)) sd hil sd) (enters_of Try.func76 kr rfl) rfl rfl rfl rfl rfl (fun t9 q10 => ?_))
 refine T_slot 17 _ (.agg ((kof job ([112#8, 108#8, 97#8, 99#8, 101#8] ++ eights [pp, pr, pa])).map b8).toArray) rfl (by rw [kof_def]) ?_
 refine D_on [2, 3, 4] rfl ?_
 refine D_one 13 _ rfl kr rfl (op_sto (n := 32) (vs := ((kof job ([112#8, 108#8, 97#8, 99#8, 101#8] ++ eights [pp, pr, pa])).map b8)) 2 rfl rfl kr (all8_one _) kr sd rfl rfl rfl rfl ?_)
 refine D_past kr ?_
 refine D_done kr ?_
 refine T_ret ?_
 exact T_fin () (by first | trivial | omega | (simp; done)) (resb 0 rfl rfl rfl Try.underlying50 rfl (fwz (n := 32) kr sd)) [] ⟨by decide, rfl⟩ rfl
set_option maxHeartbeats 4000000 in
theorem ksender_f (job : List (BitVec 8)) (fr : BitVec 64) (start : BitVec 64) (w : World) (hO : HOK [] w) (hj : job.length = 32) : Calls Try.prog 75 [(.agg (job.map b8).toArray), (.int .i64 (i64 fr)), (b64 start)].toArray w (Ret (T := Unit) [] w (fun _ => True) (fun _ => (.agg ((kof job ([115#8, 101#8, 110#8, 100#8, 101#8, 114#8] ++ eights [fr, start])).map b8).toArray)) (fun _ => [])) := by
 have hil : (([115#8, 101#8, 110#8, 100#8, 101#8, 114#8] ++ eights [fr, start])).length = 22 := by rw [List.length_append, eights_two]; rfl
 have hkl := kof_len job ([115#8, 101#8, 110#8, 100#8, 101#8, 114#8] ++ eights [fr, start])
 have hF : Wid Fence.wide := wid_wide
 refine enter (c := _) Try.func75 rfl [] _ [] (by rw [Try.ntmps75]; rfl) (own_rds hO rfl) ?_
 rw [Try.ntmps75]
 refine T_re [(0, (.agg (job.map b8).toArray)), (1, (.int .i64 (i64 fr))), (2, (b64 start))] (sc rfl (sc rfl (sc rfl sn))) ?_
 refine T_he [] [] ⟨by decide, rfl⟩ ?_
 refine Tsr hF rfl ?_
 refine L_op rfl (op_box (zs := (job.map b8)) rfl rfl rfl rfl rfl (fun g1 => ?_))
 refine L_op rfl (op_alloc (z := .agg ((List.replicate 32 0#8).map b8).toArray) (zs := ((List.replicate 32 0#8).map b8)) kr rfl rfl rfl rfl (fun g2 => ?_))
 refine L_nil ?_
 refine T_seq ?_
 refine T_regD [.blk g2 50 ((List.replicate 32 0#8).map b8), .blk g1 50 (job.map b8)] 7 8 #[false, false, false, false, false, false, false, false] hF kr kr ?_
 refine D_pure (i := 0) [0, 1] rfl kr rfl (pr_sla (l := 0) (u := 32) (m := 0) sd sd sd rfl Try.underlying50 (z := 1) kr rfl rfl rfl rfl) (.inr rfl) rfl rfl ?_
 refine D_pure (i := 1) [0, 1] rfl kr rfl (pr_move rfl rfl) (.inr rfl) rfl rfl ?_
 refine D_pure (i := 2) [0, 1] rfl kr rfl (pr_cv (zc_i64u fr) Try.underlying3 Try.underlying30 rfl rfl) (.inr rfl) rfl rfl ?_
 refine D_pure (i := 3) [0, 1] rfl kr rfl (pr_move rfl rfl) (.inr rfl) rfl rfl ?_
 refine D_one 4 _ rfl kr rfl (op_bslice (e := 30) (zs := [(b64 fr), (b64 start)]) (qs := [(0, (b64 fr)), (1, (b64 start))]) (fun _ => by kernel_rfl) rfl rfl rfl rfl (fun g3 => ?_))
 refine D_on [1, 2] rfl ?_
 refine D_one 5 _ rfl kr rfl (op_cn (fun w hw => kinfo_f [115#8, 101#8, 110#8, 100#8, 101#8, 114#8] 6 [fr, start] (some ⟨g3, 0, none⟩) 2 2 w (hok_cons ((src_full (z := 1) 0 rfl rfl sd sd) w hw) (hok_nil w)) (by first | rfl | (simp; done)) sd sd sd) (enters_of Try.func71 kr rfl) rfl rfl kr rfl rfl (fun t4 q5 => ?_))
 obtain ⟨B6, d7⟩ := t4
 refine T_slot 12 (.slice B6 (6 + 8 * 2) d7) (.slice B6 22 d7) rfl (by congr 1) ?_
 refine T_as 0 _ (.old B6 1 22 d7 (([115#8, 101#8, 110#8, 100#8, 101#8, 114#8] ++ eights [fr, start]).map b8)) rfl rfl ?_
 refine D_on [2, 3] rfl ?_
 refine D_one 6 _ rfl kr rfl (op_cn (fun w hw => key_f [] none 0 0 job (some ⟨g1, 0, none⟩) 32 32 ([115#8, 101#8, 110#8, 100#8, 101#8, 114#8] ++ eights [fr, start]) B6 22 d7 w (hok_cons ((src_nil 1) w hw) (hok_cons ((src_full (z := 1) 3 rfl sd sd sd) w hw) (hok_cons ((src_old 0 rfl) w hw) (hok_nil w)))) (by first | assumption | omega | (simp; done) | (simp; omega)) sd (by first | assumption | omega | (simp; done) | (simp; omega)) sd hil sd) (enters_of Try.func76 kr rfl) rfl rfl rfl rfl rfl (fun t8 q9 => ?_))
 refine T_slot 13 _ (.agg ((kof job ([115#8, 101#8, 110#8, 100#8, 101#8, 114#8] ++ eights [fr, start])).map b8).toArray) rfl (by rw [kof_def]) ?_
 refine D_on [2, 3] rfl ?_
 refine D_one 7 _ rfl kr rfl (op_sto (n := 32) (vs := ((kof job ([115#8, 101#8, 110#8, 100#8, 101#8, 114#8] ++ eights [fr, start])).map b8)) 2 rfl rfl kr (all8_one _) kr sd rfl rfl rfl rfl ?_)
 refine D_past kr ?_
 refine D_done kr ?_
 refine T_ret ?_
 exact T_fin () (by first | trivial | omega | (simp; done)) (resb 0 rfl rfl rfl Try.underlying50 rfl (fwz (n := 32) kr sd)) [] ⟨by decide, rfl⟩ rfl
set_option maxHeartbeats 4000000 in
theorem knonce_f (a : BitVec 64) (i : BitVec 64) (w : World) (hO : HOK [] w)  : Calls Try.prog 68 [(b64 a), (.int .i64 (i64 i))].toArray w (Ret (T := Unit) [] w (fun _ => True) (fun _ => (.agg ((nonc a i).map b8).toArray)) (fun _ => [])) := by
 have hnl := nonc_len a i
 have hnl2 : (lowb a 8 ++ lowb i 4).length = 12 := by rw [List.length_append, lowb_len, lowb_len]
 have hF : Wid Fence.wide := wid_wide
 refine enter (c := _) Try.func68 rfl [] _ [] (by rw [Try.ntmps68]; rfl) (own_rds hO rfl) ?_
 rw [Try.ntmps68]
 refine T_re [(0, (b64 a)), (1, (.int .i64 (i64 i)))] (sc rfl (sc rfl sn)) ?_
 refine T_he [] [] ⟨by decide, rfl⟩ ?_
 refine Tsr hF rfl ?_
 refine L_op rfl (op_alloc (z := .agg ((List.replicate 12 0#8).map b8).toArray) (zs := ((List.replicate 12 0#8).map b8)) kr rfl rfl rfl rfl (fun g1 => ?_))
 refine L_nil ?_
 refine Tsr hF rfl ?_
 refine lm rfl rfl rfl rfl rfl ?_
 refine L_op rfl (op_bslice (e := 30) (zs := [(b64 a)]) (qs := [(0, (b64 a))]) (fun _ => by kernel_rfl) rfl rfl rfl rfl (fun g2 => ?_))
 refine L_op rfl (op_cn (fun w hw => eights_f [a] (some ⟨g2, 0, none⟩) 1 1 w (hok_cons ((src_full (z := 1) 0 rfl rfl sd sd) w hw) (hok_nil w)) (by first | rfl | assumption | omega | (simp; done) | (simp; omega)) sd) (enters_of Try.func77 kr rfl) rfl rfl rfl rfl rfl (fun t3 q4 => ?_))
 obtain ⟨B5, d6⟩ := t3
 refine T_slot 7 (.slice B5 (8 * 1) d6) (.slice B5 8 d6) rfl (by congr 1) ?_
 refine T_as 0 _ (.row (.slice B5 8 d6) 5 1 8 ((lowb a 8).map b8)) rfl (by first | (rw [eib_one]; done) | (rw [eib_one]; rfl)) ?_
 refine lm rfl rfl rfl rfl rfl ?_
 refine lo rfl (pr_cv (zc_i64u i) Try.underlying3 Try.underlying30 rfl rfl) rfl rfl ?_
 refine L_op rfl (op_c1 0 rfl (fun w hw => putLow_f (lowb a 8) i 4 B5 8 d6 w (hw _ (List.mem_of_getElem? (i := 0) rfl)) sd sd) (enters_of Try.func60 kr rfl) rfl rfl rfl rfl rfl (fun t7 q8 => ?_))
 obtain ⟨B9, d10⟩ := t7
 refine T_slot 10 (.slice B9 (8 + 4) d10) (.slice B9 12 d10) rfl (by congr 1) ?_
 refine T_as 0 _ (.row (.slice B9 12 d10) 5 1 12 (((lowb a 8) ++ lowb i 4).map b8)) rfl rfl ?_
 refine lo rfl (pr_s2a sd Try.underlying86 rfl rfl) rfl rfl ?_
 refine lq rfl (ld_aggs (ds := (((lowb a 8) ++ lowb i 4).map b8)) (src_row 0 rfl) (List.take_length) (by have h1 : ((((lowb a 8) ++ lowb i 4).map b8)).length = 12 := sd; omega) Try.underlying86 rfl (fwz (n := 12) kr sd) rfl rfl) rfl rfl ?_
 refine T_slot 12 (.agg (((lowb a 8) ++ lowb i 4).map b8).toArray) (.agg ((nonc a i).map b8).toArray) rfl (by rw [nonc_def]) ?_
 refine L_op rfl (op_sto (n := 12) (vs := ((nonc a i).map b8)) 2 rfl rfl kr (all8_one _) kr sd rfl rfl rfl rfl ?_)
 refine L_nil ?_
 refine T_ret ?_
 exact T_fin () (by first | trivial | omega | (simp; done)) (resb 0 rfl rfl rfl Try.underlying86 rfl (fwz (n := 12) kr sd)) [] ⟨by decide, rfl⟩ rfl
set_option maxHeartbeats 4000000 in
theorem kaad_f (pp : BitVec 64) (pr : BitVec 64) (pa : BitVec 64) (pt : BitVec 64) (pi : BitVec 64) (sz : Nat) (w : World) (hO : HOK [] w) (hsz : sz ≤ 100000000) : Calls Try.prog 55 [(.agg [(.int .i64 (i64 pp)), (.int .i64 (i64 pr)), (.int .i64 (i64 pa)), (b64 pt), (.int .i64 (i64 pi))].toArray), (.int .i64 ((sz : Nat) : Int))].toArray w (Ret (T := Option Addr × Nat) [] w (fun ⟨B, d⟩ => True) (fun ⟨B, d⟩ => (.slice B 48 d)) (fun ⟨B, d⟩ => [.old B 1 48 d ((eights [pp, pr, pa, pt, pi, (BitVec.ofNat 64 sz)]).map b8)])) := by
 have hF : Wid Fence.wide := wid_wide
 refine enter (c := _) Try.func55 rfl [] _ [] (by rw [Try.ntmps55]; rfl) (own_rds hO rfl) ?_
 rw [Try.ntmps55]
 refine T_re [(0, (.agg [(.int .i64 (i64 pp)), (.int .i64 (i64 pr)), (.int .i64 (i64 pa)), (b64 pt), (.int .i64 (i64 pi))].toArray)), (1, (.int .i64 ((sz : Nat) : Int)))] (sc rfl (sc rfl sn)) ?_
 refine T_he [] [] ⟨by decide, rfl⟩ ?_
 refine Tsr hF rfl ?_
 refine L_op rfl (op_box (zs := [(.int .i64 (i64 pp)), (.int .i64 (i64 pr)), (.int .i64 (i64 pa)), (b64 pt), (.int .i64 (i64 pi))]) rfl rfl rfl rfl rfl (fun g1 => ?_))
 refine la rfl rfl rfl rfl rfl ?_
 refine L_nil ?_
 refine Tsr hF rfl ?_
 refine lo rfl (pr_fa (m := 0) (m' := 0) (z := 0) (by rfl) Try.underlying59 rfl kr rfl rfl) rfl rfl ?_
 refine lq rfl (ld_blk 0 rfl rfl Try.underlying3 rfl rfl rfl) rfl rfl ?_
 refine lo rfl (pr_cv (zc_i64u pp) Try.underlying3 Try.underlying30 rfl rfl) rfl rfl ?_
 refine lo rfl (pr_fa (m := 0) (m' := 1) (z := 0) (by rfl) Try.underlying59 rfl kr rfl rfl) rfl rfl ?_
 refine lq rfl (ld_blk 0 rfl rfl Try.underlying3 rfl rfl rfl) rfl rfl ?_
 refine lo rfl (pr_cv (zc_i64u pr) Try.underlying3 Try.underlying30 rfl rfl) rfl rfl ?_
 refine lo rfl (pr_fa (m := 0) (m' := 2) (z := 0) (by rfl) Try.underlying59 rfl kr rfl rfl) rfl rfl ?_
 refine lq rfl (ld_blk 0 rfl rfl Try.underlying3 rfl rfl rfl) rfl rfl ?_
 refine lo rfl (pr_cv (zc_i64u pa) Try.underlying3 Try.underlying30 rfl rfl) rfl rfl ?_
 refine lo rfl (pr_fa (m := 0) (m' := 3) (z := 0) (by rfl) Try.underlying59 rfl kr rfl rfl) rfl rfl ?_
 refine lq rfl (ld_blk 0 rfl rfl Try.underlying30 rfl rfl rfl) rfl rfl ?_
 refine lo rfl (pr_fa (m := 0) (m' := 4) (z := 0) (by rfl) Try.underlying59 rfl kr rfl rfl) rfl rfl ?_
 refine lq rfl (ld_blk 0 rfl rfl Try.underlying3 rfl rfl rfl) rfl rfl ?_
 refine lo rfl (pr_cv (zc_i64u pi) Try.underlying3 Try.underlying30 rfl rfl) rfl rfl ?_
 refine lm rfl rfl rfl rfl rfl ?_
 refine lo rfl (pr_cv (nw64 sz) Try.underlying3 Try.underlying30 rfl rfl) rfl rfl ?_
 refine L_op rfl (op_bslice (e := 30) (zs := [(b64 pp), (b64 pr), (b64 pa), (b64 pt), (b64 pi), (b64 (BitVec.ofNat 64 sz))]) (qs := [(0, (b64 pp)), (1, (b64 pr)), (2, (b64 pa)), (3, (b64 pt)), (4, (b64 pi)), (5, (b64 (BitVec.ofNat 64 sz)))]) (fun _ => by kernel_rfl) rfl rfl rfl rfl (fun g2 => ?_))
 refine L_op rfl (op_cn (fun w hw => kinfo_f [] 0 [pp, pr, pa, pt, pi, (BitVec.ofNat 64 sz)] (some ⟨g2, 0, none⟩) 6 6 w (hok_cons ((src_full (z := 1) 0 rfl rfl sd sd) w hw) (hok_nil w)) (by first | rfl | (simp; done)) sd sd sd) (enters_of Try.func71 kr rfl) rfl rfl kr rfl rfl (fun t3 q4 => ?_))
 obtain ⟨B5, d6⟩ := t3
 refine T_slot 22 (.slice B5 (0 + 8 * 6) d6) (.slice B5 48 d6) rfl (by congr 1) ?_
 refine T_as 0 _ (.old B5 1 48 d6 ((eights [pp, pr, pa, pt, pi, (BitVec.ofNat 64 sz)]).map b8)) rfl rfl ?_
 refine la rfl rfl rfl rfl rfl ?_
 refine L_nil ?_
 refine T_ret ?_
 exact T_fin (B5, d6) (by first | trivial | omega | (simp; done)) (res1 rfl rfl) [0] ⟨by decide, rfl⟩ rfl
set_option maxHeartbeats 4000000 in
theorem kaadz_f (pp : BitVec 64) (pr : BitVec 64) (pa : BitVec 64) (pt : BitVec 64) (pi : BitVec 64) (sz : BitVec 64) (w : World) (hO : HOK [] w)  : Calls Try.prog 55 [(.agg [(.int .i64 (i64 pp)), (.int .i64 (i64 pr)), (.int .i64 (i64 pa)), (b64 pt), (.int .i64 (i64 pi))].toArray), (.int .i64 (i64 sz))].toArray w (Ret (T := Option Addr × Nat) [] w (fun ⟨B, d⟩ => True) (fun ⟨B, d⟩ => (.slice B 48 d)) (fun ⟨B, d⟩ => [.old B 1 48 d ((eights [pp, pr, pa, pt, pi, sz]).map b8)])) := by
 have hF : Wid Fence.wide := wid_wide
 refine enter (c := _) Try.func55 rfl [] _ [] (by rw [Try.ntmps55]; rfl) (own_rds hO rfl) ?_
 rw [Try.ntmps55]
 refine T_re [(0, (.agg [(.int .i64 (i64 pp)), (.int .i64 (i64 pr)), (.int .i64 (i64 pa)), (b64 pt), (.int .i64 (i64 pi))].toArray)), (1, (.int .i64 (i64 sz)))] (sc rfl (sc rfl sn)) ?_
 refine T_he [] [] ⟨by decide, rfl⟩ ?_
 refine Tsr hF rfl ?_
 refine L_op rfl (op_box (zs := [(.int .i64 (i64 pp)), (.int .i64 (i64 pr)), (.int .i64 (i64 pa)), (b64 pt), (.int .i64 (i64 pi))]) rfl rfl rfl rfl rfl (fun g1 => ?_))
 refine la rfl rfl rfl rfl rfl ?_
 refine L_nil ?_
 refine Tsr hF rfl ?_
 refine lo rfl (pr_fa (m := 0) (m' := 0) (z := 0) (by rfl) Try.underlying59 rfl kr rfl rfl) rfl rfl ?_
 refine lq rfl (ld_blk 0 rfl rfl Try.underlying3 rfl rfl rfl) rfl rfl ?_
 refine lo rfl (pr_cv (zc_i64u pp) Try.underlying3 Try.underlying30 rfl rfl) rfl rfl ?_
 refine lo rfl (pr_fa (m := 0) (m' := 1) (z := 0) (by rfl) Try.underlying59 rfl kr rfl rfl) rfl rfl ?_
 refine lq rfl (ld_blk 0 rfl rfl Try.underlying3 rfl rfl rfl) rfl rfl ?_
 refine lo rfl (pr_cv (zc_i64u pr) Try.underlying3 Try.underlying30 rfl rfl) rfl rfl ?_
 refine lo rfl (pr_fa (m := 0) (m' := 2) (z := 0) (by rfl) Try.underlying59 rfl kr rfl rfl) rfl rfl ?_
 refine lq rfl (ld_blk 0 rfl rfl Try.underlying3 rfl rfl rfl) rfl rfl ?_
 refine lo rfl (pr_cv (zc_i64u pa) Try.underlying3 Try.underlying30 rfl rfl) rfl rfl ?_
 refine lo rfl (pr_fa (m := 0) (m' := 3) (z := 0) (by rfl) Try.underlying59 rfl kr rfl rfl) rfl rfl ?_
 refine lq rfl (ld_blk 0 rfl rfl Try.underlying30 rfl rfl rfl) rfl rfl ?_
 refine lo rfl (pr_fa (m := 0) (m' := 4) (z := 0) (by rfl) Try.underlying59 rfl kr rfl rfl) rfl rfl ?_
 refine lq rfl (ld_blk 0 rfl rfl Try.underlying3 rfl rfl rfl) rfl rfl ?_
 refine lo rfl (pr_cv (zc_i64u pi) Try.underlying3 Try.underlying30 rfl rfl) rfl rfl ?_
 refine lm rfl rfl rfl rfl rfl ?_
 refine lo rfl (pr_cv (zc_i64u sz) Try.underlying3 Try.underlying30 rfl rfl) rfl rfl ?_
 refine L_op rfl (op_bslice (e := 30) (zs := [(b64 pp), (b64 pr), (b64 pa), (b64 pt), (b64 pi), (b64 sz)]) (qs := [(0, (b64 pp)), (1, (b64 pr)), (2, (b64 pa)), (3, (b64 pt)), (4, (b64 pi)), (5, (b64 sz))]) (fun _ => by kernel_rfl) rfl rfl rfl rfl (fun g2 => ?_))
 refine L_op rfl (op_cn (fun w hw => kinfo_f [] 0 [pp, pr, pa, pt, pi, sz] (some ⟨g2, 0, none⟩) 6 6 w (hok_cons ((src_full (z := 1) 0 rfl rfl sd sd) w hw) (hok_nil w)) (by first | rfl | (simp; done)) sd sd sd) (enters_of Try.func71 kr rfl) rfl rfl kr rfl rfl (fun t3 q4 => ?_))
 obtain ⟨B5, d6⟩ := t3
 refine T_slot 22 (.slice B5 (0 + 8 * 6) d6) (.slice B5 48 d6) rfl (by congr 1) ?_
 refine T_as 0 _ (.old B5 1 48 d6 ((eights [pp, pr, pa, pt, pi, sz]).map b8)) rfl rfl ?_
 refine la rfl rfl rfl rfl rfl ?_
 refine L_nil ?_
 refine T_ret ?_
 exact T_fin (B5, d6) (by first | trivial | omega | (simp; done)) (res1 rfl rfl) [0] ⟨by decide, rfl⟩ rfl
end Go.Proofs.Ytlplpmkdebemnaa
namespace Go.Proofs.Ytlplpmkdebemnaa
set_option linter.unusedVariables false
set_option linter.unusedSimpArgs false
open Bv Fw
theorem ath_nil {k : Nat} (j : Nat) : ath ([] : List (BitVec k)) j = 0 := by simp [ath]
theorem ath_cons0 {k : Nat} (x : BitVec k) (xs : List (BitVec k)) : ath (x :: xs) 0 = x := rfl
theorem ath_consS {k : Nat} (x : BitVec k) (xs : List (BitVec k)) (j : Nat) : ath (x :: xs) (j + 1) = ath xs j := by simp [ath]
theorem ath_over {k : Nat} (xs : List (BitVec k)) (j : Nat) (h : xs.length ≤ j) : ath xs j = 0 := by simp [ath, List.getD_eq_getElem?_getD, h]
theorem ath_rng {k : Nat} (f : Nat → BitVec k) (n j : Nat) (h : j < n) : ath ((List.range n).map f) j = f j := by
  rw [ath_get _ _ (by simpa using h)]; simp
theorem take_succ_ath {k : Nat} (xs : List (BitVec k)) (j : Nat) (h : j < xs.length) : xs.take (j + 1) = xs.take j ++ [ath xs j] := by
  rw [List.take_add_one, List.getElem?_eq_getElem h, ath_get xs j h]; rfl
/-- The number of places of a byte each, the lowest first. -/
def vw {k : Nat} : List (BitVec k) → Nat
  | [] => 0
  | x :: xs => x.toNat + 256 * vw xs
theorem vw_nil {k : Nat} : vw ([] : List (BitVec k)) = 0 := rfl
theorem vw_cons {k : Nat} (x : BitVec k) (xs : List (BitVec k)) : vw (x :: xs) = x.toNat + 256 * vw xs := rfl
theorem vw_app {k : Nat} : ∀ (xs ys : List (BitVec k)), vw (xs ++ ys) = vw xs + 256 ^ xs.length * vw ys
  | [], ys => by simp [vw]
  | x :: xs, ys => by
    rw [List.cons_append, vw, vw, vw_app xs ys, List.length_cons, Nat.pow_succ, Nat.mul_add, Nat.mul_comm (256 ^ xs.length) 256, Nat.mul_assoc]
    omega
theorem vw_take_succ {k : Nat} (xs : List (BitVec k)) (j : Nat) (h : j < xs.length) : vw (xs.take (j + 1)) = vw (xs.take j) + 256 ^ j * (ath xs j).toNat := by
  rw [take_succ_ath xs j h, vw_app, List.length_take, Nat.min_eq_left (by omega), vw_cons, vw_nil]; simp
theorem vw_lt : ∀ (xs : List (BitVec 8)), vw xs < 256 ^ xs.length
  | [] => by simp [vw]
  | x :: xs => by
    have h1 := vw_lt xs
    have h2 := x.isLt
    rw [vw, List.length_cons, Nat.pow_succ]
    omega
theorem vw_set {k : Nat} : ∀ (xs : List (BitVec k)) (j : Nat) (v : BitVec k), j < xs.length → vw (xs.set j v) + 256 ^ j * (ath xs j).toNat = vw xs + 256 ^ j * v.toNat
  | [], j, v, h => by simp at h
  | x :: xs, 0, v, h => by simp [vw, ath_cons0]; omega
  | x :: xs, j + 1, v, h => by
    have h1 := vw_set xs j v (by simpa using h)
    rw [List.set_cons_succ, vw, vw, ath_consS, Nat.pow_succ, Nat.mul_comm (256 ^ j) 256, Nat.mul_assoc, Nat.mul_assoc]
    omega
theorem vw_rep0 {k : Nat} : ∀ n, vw (List.replicate n (0 : BitVec k)) = 0
  | 0 => rfl
  | n + 1 => by rw [List.replicate_succ, vw, vw_rep0 n]; simp
/-- The first n places of a number. -/
def dig (k n v : Nat) : List (BitVec k) := (List.range n).map fun i => BitVec.ofNat k (v / 256 ^ i % 256)
theorem dig_len (k n v : Nat) : (dig k n v).length = n := by simp [dig]
theorem dig_at (k n v j : Nat) (h : j < n) : ath (dig k n v) j = BitVec.ofNat k (v / 256 ^ j % 256) := ath_rng _ _ _ h
theorem dig_at_nat (k n v j : Nat) (hk : 8 ≤ k) (h : j < n) : (ath (dig k n v) j).toNat = v / 256 ^ j % 256 := by
  rw [dig_at k n v j h, BitVec.toNat_ofNat]
  refine Nat.mod_eq_of_lt (Nat.lt_of_lt_of_le (Nat.mod_lt _ (by omega)) ?_)
  exact Nat.pow_le_pow_right (n := 2) (by omega) hk
theorem mod_pow_succ (v j : Nat) : v % 256 ^ (j + 1) = v % 256 ^ j + 256 ^ j * (v / 256 ^ j % 256) := by
  rw [Nat.pow_succ, Nat.mod_mul]
theorem vw_dig_take (k n v : Nat) (hk : 8 ≤ k) : ∀ j, j ≤ n → vw ((dig k n v).take j) = v % 256 ^ j
  | 0, _ => by simp [vw, Nat.mod_one]
  | j + 1, h => by
    rw [vw_take_succ _ _ (by rw [dig_len]; omega), vw_dig_take k n v hk j (by omega), dig_at_nat k n v j hk (by omega), mod_pow_succ]
theorem vw_dig (k n v : Nat) (hk : 8 ≤ k) : vw (dig k n v) = v % 256 ^ n := by
  have := vw_dig_take k n v hk n (Nat.le_refl _)
  rwa [List.take_of_length_le (by rw [dig_len]; omega)] at this
/-- Bytes are the places of their number. -/
theorem dig_vw : ∀ (xs : List (BitVec 8)) (n : Nat), xs.length = n → dig 8 n (vw xs) = xs := by
  intro xs n hn
  refine ext_ath (by rw [dig_len, hn]) (fun j hj => ?_)
  rw [dig_len] at hj
  apply BitVec.eq_of_toNat_eq
  rw [dig_at_nat 8 n _ j (by omega) hj]
  have hp : 0 < 256 ^ j := Nat.pow_pos (by omega)
  have h1 : vw xs = vw (xs.take j) + 256 ^ j * ((ath xs j).toNat + 256 * vw (xs.drop (j + 1))) := by
    have e : xs = xs.take j ++ (ath xs j :: xs.drop (j + 1)) := by
      rw [ath_get xs j (by omega), ← List.drop_eq_getElem_cons (by omega), List.take_append_drop]
    rw [← vw_cons]
    conv => lhs; rw [e, vw_app, List.length_take, Nat.min_eq_left (by omega)]
  have h2 : vw (xs.take j) < 256 ^ j := by
    have := vw_lt (xs.take j)
    rwa [List.length_take, Nat.min_eq_left (by omega)] at this
  rw [h1, Nat.add_mul_div_left _ _ hp, Nat.div_eq_of_lt h2]
  have := (ath xs j).isLt
  omega
theorem dig_mod (k n v m : Nat) (h : n ≤ m) : dig k n (v % 256 ^ m) = dig k n v := by
  refine ext_ath (by rw [dig_len, dig_len]) (fun j hj => ?_)
  rw [dig_len] at hj
  rw [dig_at _ _ _ _ hj, dig_at _ _ _ _ hj]
  congr 1
  obtain ⟨d, rfl⟩ : ∃ d, m = j + 1 + d := ⟨m - j - 1, by omega⟩
  rw [Nat.pow_add, Nat.mod_mul, Nat.pow_succ]
  have hp : 0 < 256 ^ j := Nat.pow_pos (by omega)
  generalize v / (256 ^ j * 256) % 256 ^ d = q
  rw [Nat.mul_assoc, Nat.add_mul_div_left _ _ hp, Nat.mod_mul, Nat.add_mul_div_left _ _ hp, Nat.div_eq_of_lt (Nat.mod_lt _ hp)]
  omega
theorem dig_app (n m a b : Nat) (ha : a < 256 ^ n) : dig 8 n a ++ dig 8 m b = dig 8 (n + m) (a + 256 ^ n * b) := by
  have hl : (dig 8 n a ++ dig 8 m b).length = n + m := by simp [dig_len]
  rw [← dig_vw _ _ hl, vw_app, vw_dig _ _ _ (by omega), vw_dig _ _ _ (by omega), dig_len, Nat.mod_eq_of_lt ha]
  rw [← dig_mod 8 (n + m) (a + 256 ^ n * b) (n + m) (Nat.le_refl _), ← dig_mod 8 (n + m) (a + 256 ^ n * (b % 256 ^ m)) (n + m) (Nat.le_refl _)]
  congr 1
  rw [Nat.pow_add, Nat.mod_mul, Nat.mod_mul]
  have hp : 0 < 256 ^ n := Nat.pow_pos (by omega)
  rw [Nat.add_mul_mod_self_left, Nat.add_mul_mod_self_left, Nat.add_mul_div_left _ _ hp, Nat.add_mul_div_left _ _ hp, Nat.div_eq_of_lt ha]
  simp
theorem lowb_dig (v : BitVec 64) : ∀ k, k ≤ 8 → lowb v k = dig 8 k v.toNat := by
  intro k hk
  have hat : ∀ n j, j < n → ath (lowb v n) j = (v >>> (8 * j)).setWidth 8 := by
    intro n
    induction n with
    | zero => intro j hj; omega
    | succ n ih =>
      intro j hj
      rw [lowb]
      by_cases h : j < n
      · rw [ath_app_l _ _ _ (by rw [lowb_len]; exact h), ih j h]
      · obtain rfl : j = n := by omega
        rw [ath_app_r _ _ _ (by rw [lowb_len]; omega), lowb_len, Nat.sub_self]; rfl
  refine ext_ath (by rw [lowb_len, dig_len]) (fun j hj => ?_)
  rw [lowb_len] at hj
  rw [hat k j hj, dig_at _ _ _ _ hj]
  apply BitVec.eq_of_toNat_eq
  rw [BitVec.toNat_setWidth, BitVec.toNat_ushiftRight, BitVec.toNat_ofNat, Nat.shiftRight_eq_div_pow, Nat.pow_mul]
  simp
theorem low_toNat (xs : List (BitVec 8)) : ∀ k, k ≤ 8 → k ≤ xs.length → (low xs k).toNat = vw (xs.take k)
  | 0, _, _ => by simp [low, vw]
  | k + 1, h8, hl => by
    have ih := low_toNat xs k (by omega) (by omega)
    have hlt : vw (xs.take k) < 2 ^ (8 * k) := by
      have := vw_lt (xs.take k)
      rw [List.length_take, Nat.min_eq_left (by omega)] at this
      rw [Nat.pow_mul]; exact this
    have hb := (ath xs k).isLt
    have hpp : (2 : Nat) ^ (8 * k) * 256 ≤ 2 ^ 64 := by
      rw [show (256 : Nat) = 2 ^ 8 from rfl, ← Nat.pow_add]
      exact Nat.pow_le_pow_right (by omega) (by omega)
    have hs : (ath xs k).toNat <<< (8 * k) < 2 ^ 64 := by
      rw [Nat.shiftLeft_eq]
      refine Nat.lt_of_lt_of_le ?_ hpp
      rw [Nat.mul_comm]
      exact Nat.mul_lt_mul_of_pos_left hb (Nat.pow_pos (by omega))
    have hw : ((ath xs k).setWidth 64).toNat = (ath xs k).toNat := by rw [BitVec.toNat_setWidth]; exact Nat.mod_eq_of_lt (by omega)
    rw [low, BitVec.toNat_or, BitVec.toNat_shiftLeft, hw, Nat.mod_eq_of_lt hs, ih, vw_take_succ xs k (by omega), Nat.or_comm, ← Nat.shiftLeft_add_eq_or_of_lt hlt, Nat.shiftLeft_eq, Nat.pow_mul]
    have : (2 : Nat) ^ 8 = 256 := rfl
    rw [this, Nat.mul_comm]; omega
theorem vw_take16 (xs : List (BitVec 8)) (n : Nat) (h : 16 ≤ xs.length) : vw (xs.take 16) = (low xs 8).toNat + 2 ^ 64 * (low (xs.drop 8) 8).toNat := by
  rw [low_toNat xs 8 (by omega) (by omega), low_toNat (xs.drop 8) 8 (by omega) (by simp; omega)]
  have e : xs.take 16 = xs.take 8 ++ (xs.drop 8).take 8 := by rw [← List.take_add]
  rw [e, vw_app, List.length_take, Nat.min_eq_left (by omega)]
/-! The tag. -/
def polyP : Nat := 1361129467683753853853498429727072845819
theorem polyP_eq : polyP = 2 ^ 130 - 5 := rfl
/-- A key's first half without the bits that may not be. -/
def clampb (key : List (BitVec 8)) : List (BitVec 8) := (List.range 16).map fun i => if i % 4 = 3 then ath key i &&& 15#8 else if i = 4 ∨ i = 8 ∨ i = 12 then ath key i &&& 252#8 else ath key i
theorem clampb_len (key : List (BitVec 8)) : (clampb key).length = 16 := by simp [clampb]
theorem clampb_at (key : List (BitVec 8)) (j : Nat) (h : j < 16) : ath (clampb key) j = if j % 4 = 3 then ath key j &&& 15#8 else if j = 4 ∨ j = 8 ∨ j = 12 then ath key j &&& 252#8 else ath key j := ath_rng _ _ _ h
def pr (key : List (BitVec 8)) : Nat := vw (clampb key)
def ps (key : List (BitVec 8)) : Nat := vw ((key.drop 16).take 16)
/-- The number of a piece, with a byte 1 behind. -/
def pv (b : List (BitVec 8)) : Nat := vw b + 256 ^ b.length
def pblk (t : List (BitVec 8)) (k : Nat) : List (BitVec 8) := (t.drop (16 * k)).take 16
/-- The sum behind k pieces. -/
def pacc (r : Nat) (t : List (BitVec 8)) : Nat → Nat
  | 0 => 0
  | k + 1 => (pacc r t k + pv (pblk t k)) * r % polyP
theorem pacc_zero (r : Nat) (t : List (BitVec 8)) : pacc r t 0 = 0 := rfl
theorem pacc_succ (r : Nat) (t : List (BitVec 8)) (k : Nat) : pacc r t (k + 1) = (pacc r t k + pv (pblk t k)) * r % polyP := rfl
theorem pacc_lt (r : Nat) (t : List (BitVec 8)) : ∀ k, pacc r t k < polyP
  | 0 => by rw [pacc]; decide
  | k + 1 => Nat.mod_lt _ (by decide)
def ptag (key t : List (BitVec 8)) : List (BitVec 8) := dig 8 16 (pacc (pr key) t ((t.length + 15) / 16) + ps key)
theorem ptag_def (key t : List (BitVec 8)) : ptag key t = dig 8 16 (pacc (pr key) t ((t.length + 15) / 16) + ps key) := rfl
theorem ptag_len (key t : List (BitVec 8)) : (ptag key t).length = 16 := dig_len _ _ _
theorem and_le_l (a b : BitVec 8) : (a &&& b).toNat ≤ b.toNat := by rw [BitVec.toNat_and]; exact Nat.and_le_right
theorem pr_lt (key : List (BitVec 8)) : pr key < 2 ^ 124 := by
  unfold pr
  have h1 : clampb key = (clampb key).take 15 ++ [ath (clampb key) 15] := by
    rw [← take_succ_ath _ _ (by rw [clampb_len]; omega), List.take_of_length_le (by rw [clampb_len]; omega)]
  have h2 := vw_lt ((clampb key).take 15)
  rw [List.length_take, clampb_len] at h2
  rw [h1, vw_app, List.length_take, clampb_len, vw_cons, vw_nil, clampb_at _ _ (by omega), if_pos (by omega)]
  have h3 := and_le_l (ath key 15) 15#8
  have h4 : (15#8).toNat = 15 := rfl
  generalize (ath key 15 &&& 15#8).toNat = z at *
  generalize vw (List.take 15 (clampb key)) = y at *
  have h5 : min 15 16 = 15 := rfl
  rw [h5] at h2 ⊢
  have h6 : (256 : Nat) ^ 15 = 1329227995784915872903807060280344576 := rfl
  have h7 : (2 : Nat) ^ 124 = 21267647932558653966460912964485513216 := rfl
  rw [h6] at *
  rw [h7]
  omega
theorem ps_lt (key : List (BitVec 8)) : ps key < 2 ^ 128 := by
  unfold ps
  have h := vw_lt ((key.drop 16).take 16)
  have h1 : ((key.drop 16).take 16).length ≤ 16 := by simp; omega
  refine Nat.lt_of_lt_of_le h ?_
  exact Nat.le_trans (Nat.pow_le_pow_right (by omega) h1) (by decide)
theorem pblk_len_le (t : List (BitVec 8)) (k : Nat) : (pblk t k).length ≤ 16 := by unfold pblk; simp; omega
theorem pv_lt (b : List (BitVec 8)) (h : b.length ≤ 16) : pv b < 2 ^ 129 := by
  unfold pv
  have h1 := vw_lt b
  have h2 : (256 : Nat) ^ b.length ≤ 256 ^ 16 := Nat.pow_le_pow_right (by omega) h
  have h3 : (2 : Nat) ^ 129 = 2 * 256 ^ 16 := rfl
  rw [h3]; omega
attribute [irreducible] vw dig clampb pr ps pv pblk pacc ptag polyP
end Go.Proofs.Ytlplpmkdebemnaa
namespace Go.Proofs.Ytlplpmkdebemnaa
set_option linter.unusedVariables false
set_option linter.unusedSimpArgs false
open Bv Fw
theorem lt32_mul {a b : Nat} (ha : a < 4294967296) (hb : b < 4294967296) : a * b ≤ 18446744065119617025 := Nat.mul_le_mul (show a ≤ 4294967295 by omega) (show b ≤ 4294967295 by omega)
theorem and_mask32 (x : BitVec 64) : (x &&& 4294967295#64).toNat = x.toNat % 4294967296 := by
  rw [BitVec.toNat_and]
  exact Nat.and_two_pow_sub_one_eq_mod x.toNat 32
theorem shr32 (x : BitVec 64) : (x >>> 32).toNat = x.toNat / 4294967296 := by
  rw [BitVec.toNat_ushiftRight, Nat.shiftRight_eq_div_pow]
theorem split_mul (x1 x0 y1 y0 : Nat) : (4294967296 * x1 + x0) * (4294967296 * y1 + y0) = 18446744073709551616 * (x1 * y1) + 4294967296 * (x1 * y0) + 4294967296 * (x0 * y1) + x0 * y0 := by
  have : 18446744073709551616 * (x1 * y1) = 4294967296 * x1 * (4294967296 * y1) := by
    rw [Nat.mul_mul_mul_comm]
  rw [this, Nat.add_mul, Nat.mul_add, Nat.mul_add, Nat.mul_assoc 4294967296 x1 y0, ← Nat.mul_assoc x0 4294967296 y1, Nat.mul_comm x0 4294967296, Nat.mul_assoc 4294967296 x0 y1]
  omega
theorem mul64_law (x y : BitVec 64) : 18446744073709551616 * ((x >>> 32) * (y >>> 32) + (((x >>> 32) * (y &&& 4294967295#64) + (((x &&& 4294967295#64) * (y &&& 4294967295#64)) >>> 32)) >>> 32) + (((((x >>> 32) * (y &&& 4294967295#64) + (((x &&& 4294967295#64) * (y &&& 4294967295#64)) >>> 32)) &&& 4294967295#64) + (x &&& 4294967295#64) * (y >>> 32)) >>> 32)).toNat + (x * y).toNat = x.toNat * y.toNat := by
  have hx := x.isLt
  have hy := y.isLt
  have ex : x.toNat = 4294967296 * (x.toNat / 4294967296) + x.toNat % 4294967296 := by omega
  have ey : y.toNat = 4294967296 * (y.toNat / 4294967296) + y.toNat % 4294967296 := by omega
  have hxy : x.toNat * y.toNat = 18446744073709551616 * ((x.toNat / 4294967296) * (y.toNat / 4294967296)) + 4294967296 * ((x.toNat / 4294967296) * (y.toNat % 4294967296)) + 4294967296 * ((x.toNat % 4294967296) * (y.toNat / 4294967296)) + (x.toNat % 4294967296) * (y.toNat % 4294967296) := by
    conv => lhs; rw [ex, ey]
    exact split_mul _ _ _ _
  have b1 := lt32_mul (a := x.toNat / 4294967296) (b := y.toNat / 4294967296) (by omega) (by omega)
  have b2 := lt32_mul (a := x.toNat / 4294967296) (b := y.toNat % 4294967296) (by omega) (by omega)
  have b3 := lt32_mul (a := x.toNat % 4294967296) (b := y.toNat / 4294967296) (by omega) (by omega)
  have b4 := lt32_mul (a := x.toNat % 4294967296) (b := y.toNat % 4294967296) (by omega) (by omega)
  simp only [BitVec.toNat_add, BitVec.toNat_mul, and_mask32, shr32]
  generalize (x.toNat / 4294967296) * (y.toNat / 4294967296) = A at *
  generalize (x.toNat / 4294967296) * (y.toNat % 4294967296) = B at *
  generalize (x.toNat % 4294967296) * (y.toNat / 4294967296) = C at *
  generalize (x.toNat % 4294967296) * (y.toNat % 4294967296) = D at *
  rw [hxy]
  clear hxy ex ey hx hy
  omega
/-- One limb times one limb, to what is there and what is carried. -/
theorem mac_step {X hi lo ca p lo2 c1 q c2 : Nat} (hX : 18446744073709551616 * hi + lo = X) (hb : X ≤ 340282366920938463426481119284349108225) (h1 : lo2 + 18446744073709551616 * c1 = lo + ca) (h2 : q + 18446744073709551616 * c2 = p + lo2) (hca : ca < 18446744073709551616) (hp : p < 18446744073709551616) :
    18446744073709551616 * ((hi + c1) + c2) + q = X + ca + p ∧ (hi + c1) + c2 < 18446744073709551616 := by
  refine ⟨by omega, by omega⟩
theorem mul_le64 (x y : BitVec 64) : x.toNat * y.toNat ≤ 340282366920938463426481119284349108225 := Nat.mul_le_mul (show x.toNat ≤ 18446744073709551615 by have := x.isLt; omega) (show y.toNat ≤ 18446744073709551615 by have := y.isLt; omega)
/-- One limb times one limb, in bits. -/
theorem mac_bits {x y hi lo ca p lo2 c1 q c2 : BitVec 64} (hX : 18446744073709551616 * hi.toNat + lo.toNat = x.toNat * y.toNat) (h1 : lo2.toNat + 18446744073709551616 * c1.toNat = lo.toNat + ca.toNat + (0#64).toNat) (h2 : q.toNat + 18446744073709551616 * c2.toNat = p.toNat + lo2.toNat + (0#64).toNat) :
    18446744073709551616 * (hi + c1 + c2).toNat + q.toNat = x.toNat * y.toNat + ca.toNat + p.toNat := by
  have e0 : (0#64).toNat = 0 := rfl
  rw [e0] at h1 h2
  have h := mac_step hX (mul_le64 x y) (by omega : lo2.toNat + 18446744073709551616 * c1.toNat = lo.toNat + ca.toNat) (by omega : q.toNat + 18446744073709551616 * c2.toNat = p.toNat + lo2.toNat) ca.isLt p.isLt
  have e : (hi + c1 + c2).toNat = hi.toNat + c1.toNat + c2.toNat := by
    rw [BitVec.toNat_add, BitVec.toNat_add]
    have := h.2
    omega
  rw [e]
  exact h.1
/-- The number of three limbs. -/
def v3 (a b c : BitVec 64) : Nat := a.toNat + 18446744073709551616 * b.toNat + 340282366920938463463374607431768211456 * c.toNat
theorem v3_def (a b c : BitVec 64) : v3 a b c = a.toNat + 18446744073709551616 * b.toNat + 340282366920938463463374607431768211456 * c.toNat := rfl
/-- A sum of three limbs. -/
theorem plus_law {a0 a1 a2 x y z s0 c0 s1 c1 : BitVec 64} (h0 : s0.toNat + 18446744073709551616 * c0.toNat = a0.toNat + x.toNat + (0#64).toNat) (h1 : s1.toNat + 18446744073709551616 * c1.toNat = a1.toNat + y.toNat + c0.toNat) (hc1 : c1.toNat ≤ 1) (hb : a2.toNat + z.toNat + 1 < 18446744073709551616) :
    v3 s0 s1 (a2 + (z + c1)) = v3 a0 a1 a2 + v3 x y z := by
  have e0 : (0#64).toNat = 0 := rfl
  rw [e0] at h0
  have e : (a2 + (z + c1)).toNat = a2.toNat + z.toNat + c1.toNat := by
    rw [BitVec.toNat_add, BitVec.toNat_add]; omega
  simp only [v3_def, e]
  omega
theorem and3 (x : BitVec 64) : (x &&& 3#64).toNat = x.toNat % 4 := by
  rw [BitVec.toNat_and]; exact Nat.and_two_pow_sub_one_eq_mod x.toNat 2
theorem andnot3 (x : BitVec 64) : (x &&& ~~~3#64).toNat = x.toNat / 4 * 4 := by
  have e : x &&& ~~~3#64 = (x >>> 2) <<< 2 := by
    apply BitVec.eq_of_getLsbD_eq
    intro i hi
    simp only [BitVec.getLsbD_and, BitVec.getLsbD_not, BitVec.getLsbD_shiftLeft, BitVec.getLsbD_ushiftRight]
    by_cases h : i < 2
    · rcases (by omega : i = 0 ∨ i = 1) with rfl | rfl <;> simp
    · have h1 : 2 + (i - 2) = i := by omega
      have h2 : (3#64).getLsbD i = false := by
        have h3 : 2 ^ 2 ≤ 2 ^ i := Nat.pow_le_pow_right (by omega) (by omega)
        rw [BitVec.getLsbD, BitVec.toNat_ofNat]
        exact Nat.testBit_lt_two_pow (by omega)
      rw [h2, h1]
      simp [h, hi]
  rw [e, BitVec.toNat_shiftLeft, BitVec.toNat_ushiftRight, Nat.shiftRight_eq_div_pow, Nat.shiftLeft_eq]
  have := x.isLt
  omega
theorem once_law (x y : BitVec 64) : ((x >>> 2) ||| (y <<< 62)).toNat = x.toNat / 4 + y.toNat % 4 * 4611686018427387904 := by
  rw [BitVec.toNat_or, BitVec.toNat_shiftLeft, BitVec.toNat_ushiftRight, Nat.shiftRight_eq_div_pow]
  have hx := x.isLt
  have e1 : y.toNat <<< 62 % 2 ^ 64 = (y.toNat % 4) <<< 62 := by rw [Nat.shiftLeft_eq, Nat.shiftLeft_eq]; omega
  rw [e1, Nat.or_comm, ← Nat.shiftLeft_add_eq_or_of_lt (by omega : x.toNat / 2 ^ 2 < 2 ^ 62), Nat.shiftLeft_eq]
  omega
theorem shr2 (x : BitVec 64) : (x >>> 2).toNat = x.toNat / 4 := by rw [BitVec.toNat_ushiftRight, Nat.shiftRight_eq_div_pow]
theorem dist32 (a0 a1 a2 r0 r1 : Nat) : (a0 + 18446744073709551616 * a1 + 340282366920938463463374607431768211456 * a2) * (r0 + 18446744073709551616 * r1) = a0 * r0 + 18446744073709551616 * (a0 * r1) + 18446744073709551616 * (a1 * r0) + 340282366920938463463374607431768211456 * (a1 * r1) + 340282366920938463463374607431768211456 * (a2 * r0) + 6277101735386680763835789423207666416102355444464034512896 * (a2 * r1) := by
  have e1 : 340282366920938463463374607431768211456 * (a1 * r1) = 18446744073709551616 * a1 * (18446744073709551616 * r1) := by rw [Nat.mul_mul_mul_comm]
  have e2 : 6277101735386680763835789423207666416102355444464034512896 * (a2 * r1) = 340282366920938463463374607431768211456 * a2 * (18446744073709551616 * r1) := by rw [Nat.mul_mul_mul_comm]
  rw [e1, e2]
  simp only [Nat.add_mul, Nat.mul_add]
  rw [Nat.mul_assoc 18446744073709551616 a1 r0, Nat.mul_assoc 340282366920938463463374607431768211456 a2 r0, Nat.mul_left_comm a0 18446744073709551616 r1]
  omega
/-- Three limbs times two: the rows, one behind the other. -/
theorem rows_law {a0 a1 a2 r0 r1 p0 p1 p2 p1' p2' p3 p2'' p3' p4 k00 k01 k10 k11 k20 k21 : Nat}
    (h00 : 18446744073709551616 * k00 + p0 = a0 * r0 + 0 + 0) (h01 : 18446744073709551616 * k01 + p1 = a0 * r1 + k00 + 0) (e2 : p2 = k01)
    (h10 : 18446744073709551616 * k10 + p1' = a1 * r0 + 0 + p1) (h11 : 18446744073709551616 * k11 + p2' = a1 * r1 + k10 + p2) (e3 : p3 = k11)
    (h20 : 18446744073709551616 * k20 + p2'' = a2 * r0 + 0 + p2') (h21 : 18446744073709551616 * k21 + p3' = a2 * r1 + k20 + p3) (e4 : p4 = k21) :
    p0 + 18446744073709551616 * p1' + 340282366920938463463374607431768211456 * p2'' + 6277101735386680763835789423207666416102355444464034512896 * p3' + 115792089237316195423570985008687907853269984665640564039457584007913129639936 * p4 = (a0 + 18446744073709551616 * a1 + 340282366920938463463374607431768211456 * a2) * (r0 + 18446744073709551616 * r1) := by
  rw [dist32]; omega
/-- What stands from the bit 130 on counts five times. -/
theorem fold_law {p0 p1 p2 p3 p4 : BitVec 64} {Q out : Nat} (hQ : p0.toNat + 18446744073709551616 * p1.toNat + 340282366920938463463374607431768211456 * p2.toNat + 6277101735386680763835789423207666416102355444464034512896 * p3.toNat + 115792089237316195423570985008687907853269984665640564039457584007913129639936 * p4.toNat = Q)
    (ho : out = v3 p0 p1 (p2 &&& 3#64) + v3 (p2 &&& ~~~3#64) p3 p4 + v3 (((p2 &&& ~~~3#64) >>> 2) ||| (p3 <<< 62)) ((p3 >>> 2) ||| (p4 <<< 62)) (p4 >>> 2)) :
    out % polyP = Q % polyP ∧ out ≤ 1361129467683753853853498429727072845823 + 5 * (Q / 1361129467683753853853498429727072845824) := by
  simp only [v3_def, and3, andnot3, once_law, shr2] at ho
  have h0 := p0.isLt
  have h1 := p1.isLt
  have h2 := p2.isLt
  have h3 := p3.isLt
  have h4 := p4.isLt
  generalize p0.toNat = a0 at *
  generalize p1.toNat = a1 at *
  generalize p2.toNat = a2 at *
  generalize p3.toNat = a3 at *
  generalize p4.toNat = a4 at *
  obtain ⟨h, hh⟩ : ∃ h, h = Q / 1361129467683753853853498429727072845824 := ⟨_, rfl⟩
  have eh : h = a2 / 4 + 4611686018427387904 * a3 + 85070591730234615865843651857942052864 * a4 := by omega
  have e : out + polyP * h = Q := by rw [polyP_eq]; omega
  refine ⟨by rw [← e, Nat.add_mul_mod_self_left], ?_⟩
  rw [← hh]
  omega
theorem v3_lt_top {a b c : BitVec 64} {B : Nat} (h : v3 a b c < 340282366920938463463374607431768211456 * B) : c.toNat < B := by
  rw [v3_def] at h; omega
attribute [irreducible] v3
end Go.Proofs.Ytlplpmkdebemnaa
namespace Go.Proofs.Ytlplpmkdebemnaa
set_option linter.unusedVariables false
set_option linter.unusedSimpArgs false
open Bv Fw
theorem vw_split {k : Nat} (xs : List (BitVec k)) (i : Nat) (h : i < xs.length) : vw xs = vw (xs.take i) + 256 ^ i * ((ath xs i).toNat + 256 * vw (xs.drop (i + 1))) := by
  have e : xs = xs.take i ++ (ath xs i :: xs.drop (i + 1)) := by
    rw [ath_get xs i h, ← List.drop_eq_getElem_cons h, List.take_append_drop]
  rw [← vw_cons]
  conv => lhs; rw [e, vw_app, List.length_take, Nat.min_eq_left (by omega)]
/-- Each place is below a bound. -/
def Bd {k : Nat} (B : Nat) (xs : List (BitVec k)) : Prop := ∀ j, (ath xs j).toNat < B
theorem vw_take_lt {k : Nat} {B : Nat} (xs : List (BitVec k)) (hB : Bd B xs) : ∀ i, i ≤ xs.length → vw (xs.take i) < B * 256 ^ i
  | 0, _ => by
    have := hB 0
    rw [List.take_zero, vw_nil]; simp <;> omega
  | i + 1, h => by
    rw [vw_take_succ xs i (by omega), Nat.pow_succ]
    have h1 := vw_take_lt xs hB i (by omega)
    have h2 := hB i
    have h3 : 256 ^ i * (ath xs i).toNat ≤ 256 ^ i * B := Nat.mul_le_mul_left _ (by omega)
    have h4 : B * (256 ^ i * 256) = (256 ^ i * B) * 256 := by rw [← Nat.mul_assoc, Nat.mul_comm B]
    rw [h4]
    have h5 : B * 256 ^ i = 256 ^ i * B := Nat.mul_comm _ _
    rw [h5] at h1
    generalize 256 ^ i * B = q at *
    omega
/-- What is carried to place i. -/
def cy (xs : List (BitVec 32)) (i : Nat) : Nat := vw (xs.take i) / 256 ^ i
theorem cy_zero (xs : List (BitVec 32)) : cy xs 0 = 0 := by unfold cy; rw [List.take_zero, vw_nil]
theorem cy_succ (xs : List (BitVec 32)) (i : Nat) (h : i < xs.length) : cy xs (i + 1) = (cy xs i + (ath xs i).toNat) / 256 := by
  unfold cy
  rw [vw_take_succ xs i h, Nat.pow_succ, ← Nat.div_div_eq_div_mul, Nat.add_mul_div_left _ _ (Nat.pow_pos (by omega))]
theorem cy_lt (xs : List (BitVec 32)) (B : Nat) (hB : Bd B xs) (i : Nat) (h : i ≤ xs.length) : cy xs i < B := by
  unfold cy
  exact Nat.div_lt_of_lt_mul (by rw [Nat.mul_comm]; exact vw_take_lt xs hB i h)
theorem cy_dig (xs : List (BitVec 32)) (i : Nat) (h : i < xs.length) : (cy xs i + (ath xs i).toNat) % 256 = vw xs / 256 ^ i % 256 := by
  have hp : 0 < 256 ^ i := Nat.pow_pos (by omega)
  unfold cy
  rw [vw_split xs i h, Nat.add_mul_div_left _ _ hp]
  omega
/-- The first i places carried. -/
def cw (xs : List (BitVec 32)) (i : Nat) : List (BitVec 32) := dig 32 i (vw xs) ++ xs.drop i
theorem cw_len (xs : List (BitVec 32)) (i : Nat) (h : i ≤ xs.length) : (cw xs i).length = xs.length := by unfold cw; rw [List.length_append, dig_len, List.length_drop]; omega
theorem cw_zero (xs : List (BitVec 32)) : cw xs 0 = xs := by unfold cw dig; simp
theorem cw_all (xs : List (BitVec 32)) (n : Nat) (h : xs.length = n) : cw xs n = dig 32 n (vw xs) := by unfold cw; rw [List.drop_of_length_le (by omega), List.append_nil]
theorem cw_at (xs : List (BitVec 32)) (i : Nat) (h : i < xs.length) : ath (cw xs i) i = ath xs i := by
  unfold cw; rw [ath_app_r _ _ _ (by rw [dig_len]; omega), dig_len, ath_drop]; congr 1; omega
theorem dig_succ (k n v : Nat) : dig k (n + 1) v = dig k n v ++ [BitVec.ofNat k (v / 256 ^ n % 256)] := by
  unfold dig; rw [List.range_succ, List.map_append]; rfl
theorem cw_set (xs : List (BitVec 32)) (i : Nat) (h : i < xs.length) (v : BitVec 32) (hv : v.toNat = vw xs / 256 ^ i % 256) : (cw xs i).set i v = cw xs (i + 1) := by
  unfold cw
  rw [List.set_append_right _ _ (by rw [dig_len]; omega), dig_len, Nat.sub_self, List.drop_eq_getElem_cons h, List.set_cons_zero, dig_succ, List.append_assoc]
  congr 1
  rw [List.singleton_append]
  congr 1
  apply BitVec.eq_of_toNat_eq
  rw [hv, BitVec.toNat_ofNat]
  omega
theorem cy_add (xs : List (BitVec 32)) (B : Nat) (hB : Bd B xs) (hB2 : B ≤ 1073741824) (i : Nat) (h : i < xs.length) : (BitVec.ofNat 32 (cy xs i) + ath xs i).toNat = cy xs i + (ath xs i).toNat := by
  have h1 := cy_lt xs B hB i (by omega)
  have h2 := hB i
  rw [BitVec.toNat_add, BitVec.toNat_ofNat, Nat.mod_eq_of_lt (a := cy xs i) (by omega), Nat.mod_eq_of_lt (by omega)]
theorem cw_step (xs : List (BitVec 32)) (B : Nat) (hB : Bd B xs) (hB2 : B ≤ 1073741824) (i : Nat) (h : i < xs.length) : (cw xs i).set i ((BitVec.ofNat 32 (cy xs i) + ath (cw xs i) i) &&& 255#32) = cw xs (i + 1) := by
  refine cw_set xs i h _ ?_
  rw [cw_at xs i h, BitVec.toNat_and, cy_add xs B hB hB2 i h]
  exact (Nat.and_two_pow_sub_one_eq_mod _ 8).trans (cy_dig xs i h)
theorem cy_step (xs : List (BitVec 32)) (B : Nat) (hB : Bd B xs) (hB2 : B ≤ 1073741824) (i : Nat) (h : i < xs.length) : (BitVec.ofNat 32 (cy xs i) + ath (cw xs i) i) >>> 8 = BitVec.ofNat 32 (cy xs (i + 1)) := by
  apply BitVec.eq_of_toNat_eq
  have h1 := cy_lt xs B hB (i + 1) (by omega)
  rw [cw_at xs i h, BitVec.toNat_ushiftRight, cy_add xs B hB hB2 i h, Nat.shiftRight_eq_div_pow, BitVec.toNat_ofNat, cy_succ xs i h, Nat.mod_eq_of_lt (by rw [cy_succ xs i h] at h1; omega)]
theorem dig_bd (n v : Nat) : Bd 256 (dig 32 n v) := fun j => by
  by_cases h : j < n
  · rw [dig_at_nat 32 n v j (by omega) h]; omega
  · rw [ath_over _ _ (by rw [dig_len]; omega)]; decide
/-! Less, modulo 2^130 - 5. -/
def redlow (v i : Nat) : List (BitVec 32) := (List.range 40).map fun j => if j < i then BitVec.ofNat 32 (v % 1361129467683753853853498429727072845824 / 256 ^ j % 256) else 0#32
def redhigh (v i : Nat) : List (BitVec 32) := (List.range 40).map fun j => if j + 16 < i then BitVec.ofNat 32 (v / 1361129467683753853853498429727072845824 / 256 ^ j % 256) else 0#32
theorem redlow_len (v i : Nat) : (redlow v i).length = 40 := by simp [redlow]
theorem redhigh_len (v i : Nat) : (redhigh v i).length = 40 := by simp [redhigh]
theorem redlow_at (v i j : Nat) (h : j < 40) : ath (redlow v i) j = if j < i then BitVec.ofNat 32 (v % 1361129467683753853853498429727072845824 / 256 ^ j % 256) else 0#32 := ath_rng _ _ _ h
theorem redhigh_at (v i j : Nat) (h : j < 40) : ath (redhigh v i) j = if j + 16 < i then BitVec.ofNat 32 (v / 1361129467683753853853498429727072845824 / 256 ^ j % 256) else 0#32 := ath_rng _ _ _ h
theorem ath_repz {k : Nat} (n j : Nat) : ath (List.replicate n (0 : BitVec k)) j = 0 := by
  unfold ath
  rw [List.getD_eq_getElem?_getD, List.getElem?_replicate]
  split <;> rfl
theorem redlow_zero (v : Nat) : redlow v 0 = List.replicate 40 0#32 := by
  refine ext_ath (by simp [redlow_len]) (fun j hj => ?_)
  rw [redlow_len] at hj
  rw [redlow_at _ _ _ hj, if_neg (by omega)]; exact (ath_repz 40 j).symm
theorem redhigh_zero (v : Nat) : redhigh v 0 = List.replicate 40 0#32 := by
  refine ext_ath (by simp [redhigh_len]) (fun j hj => ?_)
  rw [redhigh_len] at hj
  rw [redhigh_at _ _ _ hj, if_neg (by omega)]; exact (ath_repz 40 j).symm
theorem redhigh_stay (v i : Nat) (h : i < 16) : redhigh v (i + 1) = redhigh v i := by
  refine ext_ath (by rw [redhigh_len, redhigh_len]) (fun j hj => ?_)
  rw [redhigh_len] at hj
  rw [redhigh_at _ _ _ hj, redhigh_at _ _ _ hj, if_neg (by omega), if_neg (by omega)]
theorem pow_16 : (256 : Nat) ^ 16 = 340282366920938463463374607431768211456 := rfl
theorem low_digit (v j : Nat) (h : j < 16) : v % 1361129467683753853853498429727072845824 / 256 ^ j % 256 = v / 256 ^ j % 256 := by
  obtain ⟨d, hd⟩ : ∃ d, 16 = j + 1 + d := ⟨15 - j, by omega⟩
  have e : 1361129467683753853853498429727072845824 = 256 ^ j * (256 * (256 ^ d * 4)) := by
    have : 256 ^ j * (256 * (256 ^ d * 4)) = 256 ^ (j + 1 + d) * 4 := by rw [Nat.pow_add, Nat.pow_succ]; ac_rfl
    rw [this, ← hd, pow_16]
  rw [e, Nat.mod_mul, Nat.add_mul_div_left _ _ (Nat.pow_pos (by omega)), Nat.div_eq_of_lt (Nat.mod_lt _ (Nat.pow_pos (by omega))), Nat.zero_add, Nat.mod_mul, Nat.add_mul_mod_self_left, Nat.mod_mod]
theorem low_digit16 (v : Nat) : v % 1361129467683753853853498429727072845824 / 256 ^ 16 % 256 = v / 256 ^ 16 % 256 % 4 := by
  rw [pow_16]; omega
theorem low_digit_over (v j : Nat) (h : 16 < j) : v % 1361129467683753853853498429727072845824 / 256 ^ j % 256 = 0 := by
  rw [Nat.div_eq_of_lt]
  have h1 : (256 : Nat) ^ 17 ≤ 256 ^ j := Nat.pow_le_pow_right (by omega) h
  have h2 : (256 : Nat) ^ 17 = 87112285931760246646623899502532662132736 := rfl
  have h3 := Nat.mod_lt v (show 0 < 1361129467683753853853498429727072845824 by omega)
  omega
theorem set_of_at {xs ys : List (BitVec 32)} {i : Nat} {v : BitVec 32} (hl : xs.length = ys.length) (hi : i < xs.length) (hv : v = ath ys i) (h : ∀ j, j < xs.length → j ≠ i → ath xs j = ath ys j) : xs.set i v = ys := by
  refine ext_ath (by rw [List.length_set, hl]) (fun j hj => ?_)
  rw [List.length_set] at hj
  rw [ath_set _ _ _ _ hi]
  split
  · next e => subst e; exact hv
  · next e => exact h j hj (fun h => e h.symm)
theorem redlow_set (v i : Nat) (hi : i < 16) : (redlow v i).set i (ath (dig 32 40 v) i) = redlow v (i + 1) := by
  refine set_of_at (by rw [redlow_len, redlow_len]) (by rw [redlow_len]; omega) ?_ (fun j hj hne => ?_)
  · rw [redlow_at _ _ _ (by omega), if_pos (by omega), dig_at _ _ _ _ (by omega), low_digit v i hi]
  · rw [redlow_len] at hj
    rw [redlow_at _ _ _ hj, redlow_at _ _ _ hj]
    by_cases h : j < i
    · rw [if_pos h, if_pos (by omega)]
    · rw [if_neg h, if_neg (by omega)]
theorem redlow_set16 (v : Nat) : (redlow v 16).set 16 (ath (dig 32 40 v) 16 &&& 3#32) = redlow v 17 := by
  refine set_of_at (by rw [redlow_len, redlow_len]) (by rw [redlow_len]; omega) ?_ (fun j hj hne => ?_)
  · rw [redlow_at _ _ _ (by omega), if_pos (by omega)]
    apply BitVec.eq_of_toNat_eq
    have e : (ath (dig 32 40 v) 16 &&& 3#32).toNat = v / 256 ^ 16 % 256 % 4 := by
      rw [BitVec.toNat_and, dig_at_nat 32 40 v 16 (by omega) (by omega)]; exact Nat.and_two_pow_sub_one_eq_mod _ 2
    rw [e, BitVec.toNat_ofNat, low_digit16]
    omega
  · rw [redlow_len] at hj
    rw [redlow_at _ _ _ hj, redlow_at _ _ _ hj]
    by_cases h : j < 16
    · rw [if_pos h, if_pos (by omega)]
    · rw [if_neg h, if_neg (by omega)]
theorem redlow_stay (v i : Nat) (hi : 16 < i) : redlow v (i + 1) = redlow v i := by
  refine ext_ath (by rw [redlow_len, redlow_len]) (fun j hj => ?_)
  rw [redlow_len] at hj
  rw [redlow_at _ _ _ hj, redlow_at _ _ _ hj]
  by_cases h : j < i
  · rw [if_pos h, if_pos (by omega)]
  · rw [if_neg h]
    by_cases h2 : j < i + 1
    · rw [if_pos h2, low_digit_over v j (by omega)]
    · rw [if_neg h2]
theorem redlow_all (v : Nat) : redlow v 40 = dig 32 40 (v % 1361129467683753853853498429727072845824) := by
  refine ext_ath (by rw [redlow_len, dig_len]) (fun j hj => ?_)
  rw [redlow_len] at hj
  rw [redlow_at _ _ _ hj, if_pos hj, dig_at _ _ _ _ hj]
theorem high_digit (v j : Nat) : v / 1361129467683753853853498429727072845824 / 256 ^ j % 256 = (v / 256 ^ (16 + j) % 256) / 4 + (v / 256 ^ (16 + j + 1) % 256 * 64) % 256 := by
  have e1 : v / 1361129467683753853853498429727072845824 / 256 ^ j = v / 256 ^ (16 + j) / 4 := by
    rw [Nat.div_div_eq_div_mul, Nat.div_div_eq_div_mul, Nat.pow_add, pow_16]
    congr 1
    rw [show (1361129467683753853853498429727072845824 : Nat) = 340282366920938463463374607431768211456 * 4 from rfl]
    ac_rfl
  have e2 : v / 256 ^ (16 + j + 1) = v / 256 ^ (16 + j) / 256 := by rw [Nat.pow_succ, Nat.div_div_eq_div_mul]
  rw [e1, e2]
  generalize v / 256 ^ (16 + j) = w
  omega
theorem or6 (a b : BitVec 32) (ha : a.toNat < 256) (hb : b.toNat < 256) : ((a >>> 2) ||| (b <<< 6 &&& 255#32)).toNat = a.toNat / 4 + (b.toNat * 64) % 256 := by
  rw [BitVec.toNat_or, BitVec.toNat_and, BitVec.toNat_shiftLeft, BitVec.toNat_ushiftRight, Nat.shiftRight_eq_div_pow]
  have e1 : b.toNat <<< 6 % 2 ^ 32 &&& (255#32).toNat = (b.toNat % 4) <<< 6 := by
    rw [Nat.shiftLeft_eq, Nat.shiftLeft_eq]
    refine (Nat.and_two_pow_sub_one_eq_mod _ 8).trans ?_
    omega
  rw [e1, Nat.or_comm, ← Nat.shiftLeft_add_eq_or_of_lt (by omega : a.toNat / 2 ^ 2 < 2 ^ 6), Nat.shiftLeft_eq]
  omega
theorem redhigh_set (v i : Nat) (h1 : 16 ≤ i) (h2 : i < 40) (x : BitVec 32) (hv : v < 256 ^ 40) (hx : x = if i + 1 < 40 then ath (dig 32 40 v) (i + 1) else 0#32) : (redhigh v i).set (i - 16) ((ath (dig 32 40 v) i >>> 2) ||| (x <<< 6 &&& 255#32)) = redhigh v (i + 1) := by
  refine set_of_at (by rw [redhigh_len, redhigh_len]) (by rw [redhigh_len]; omega) ?_ (fun j hj hne => ?_)
  · have hx2 : x.toNat = v / 256 ^ (i + 1) % 256 := by
      subst hx
      split
      · next h => rw [dig_at_nat 32 40 v _ (by omega) h]
      · next h =>
        have : v / 256 ^ (i + 1) = 0 := Nat.div_eq_of_lt (Nat.lt_of_lt_of_le hv (Nat.pow_le_pow_right (by omega) (by omega)))
        rw [this]; rfl
    have ha := dig_at_nat 32 40 v i (by omega) h2
    rw [redhigh_at _ _ _ (by omega), if_pos (by omega)]
    apply BitVec.eq_of_toNat_eq
    rw [or6 _ _ (by rw [ha]; omega) (by rw [hx2]; omega), ha, hx2, BitVec.toNat_ofNat, high_digit, show 16 + (i - 16) = i by omega]
    omega
  · rw [redhigh_len] at hj
    rw [redhigh_at _ _ _ hj, redhigh_at _ _ _ hj]
    by_cases h : j + 16 < i
    · rw [if_pos h, if_pos (by omega)]
    · rw [if_neg h, if_neg (by omega)]
theorem redhigh_all (v : Nat) (hv : v < 256 ^ 40) : redhigh v 40 = dig 32 40 (v / 1361129467683753853853498429727072845824) := by
  refine ext_ath (by rw [redhigh_len, dig_len]) (fun j hj => ?_)
  rw [redhigh_len] at hj
  rw [redhigh_at _ _ _ hj, dig_at _ _ _ _ hj]
  by_cases h : j + 16 < 40
  · rw [if_pos h]
  · rw [if_neg h, high_digit]
    have h1 : v / 256 ^ (16 + j) = 0 := Nat.div_eq_of_lt (Nat.lt_of_lt_of_le hv (Nat.pow_le_pow_right (by omega) (by omega)))
    have h2 : v / 256 ^ (16 + j + 1) = 0 := Nat.div_eq_of_lt (Nat.lt_of_lt_of_le hv (Nat.pow_le_pow_right (by omega) (by omega)))
    rw [h1, h2]
/-- Low, and five times high, place by place. -/
def lowhigh (v i : Nat) : List (BitVec 32) := (List.range 40).map fun j => if j < i then ath (dig 32 40 (v % 1361129467683753853853498429727072845824)) j + 5#32 * ath (dig 32 40 (v / 1361129467683753853853498429727072845824)) j else ath (dig 32 40 (v % 1361129467683753853853498429727072845824)) j
theorem lowhigh_len (v i : Nat) : (lowhigh v i).length = 40 := by simp [lowhigh]
theorem lowhigh_at (v i j : Nat) (h : j < 40) : ath (lowhigh v i) j = if j < i then ath (dig 32 40 (v % 1361129467683753853853498429727072845824)) j + 5#32 * ath (dig 32 40 (v / 1361129467683753853853498429727072845824)) j else ath (dig 32 40 (v % 1361129467683753853853498429727072845824)) j := ath_rng _ _ _ h
theorem lowhigh_zero (v : Nat) : lowhigh v 0 = dig 32 40 (v % 1361129467683753853853498429727072845824) := by
  refine ext_ath (by rw [lowhigh_len, dig_len]) (fun j hj => ?_)
  rw [lowhigh_len] at hj
  rw [lowhigh_at _ _ _ hj, if_neg (by omega)]
theorem lowhigh_set (v i : Nat) (h : i < 40) : (lowhigh v i).set i (ath (lowhigh v i) i + 5#32 * ath (dig 32 40 (v / 1361129467683753853853498429727072845824)) i) = lowhigh v (i + 1) := by
  refine set_of_at (by rw [lowhigh_len, lowhigh_len]) (by rw [lowhigh_len]; omega) ?_ (fun j hj hne => ?_)
  · rw [lowhigh_at _ _ _ h, lowhigh_at _ _ _ h, if_neg (by omega), if_pos (by omega)]
  · rw [lowhigh_len] at hj
    rw [lowhigh_at _ _ _ hj, lowhigh_at _ _ _ hj]
    by_cases h : j < i
    · rw [if_pos h, if_pos (by omega)]
    · rw [if_neg h, if_neg (by omega)]
theorem lowhigh_atn (v j : Nat) (h : j < 40) : (ath (lowhigh v 40) j).toNat = (ath (dig 32 40 (v % 1361129467683753853853498429727072845824)) j).toNat + 5 * (ath (dig 32 40 (v / 1361129467683753853853498429727072845824)) j).toNat := by
  rw [lowhigh_at _ _ _ h, if_pos h, BitVec.toNat_add, BitVec.toNat_mul]
  have h1 := dig_bd 40 (v % 1361129467683753853853498429727072845824) j
  have h2 := dig_bd 40 (v / 1361129467683753853853498429727072845824) j
  have h3 : (5#32).toNat = 5 := rfl
  rw [h3]; omega
theorem lowhigh_bd (v : Nat) : Bd 2000 (lowhigh v 40) := fun j => by
  by_cases h : j < 40
  · rw [lowhigh_atn v j h]
    have h1 := dig_bd 40 (v % 1361129467683753853853498429727072845824) j
    have h2 := dig_bd 40 (v / 1361129467683753853853498429727072845824) j
    omega
  · rw [ath_over _ _ (by rw [lowhigh_len]; omega)]; decide
/-- Places that are sums have the sum of the numbers. -/
theorem vw_lin {k : Nat} (c : Nat) (xs ys zs : List (BitVec k)) (n : Nat) (hx : xs.length = n) (hy : ys.length = n) (hz : zs.length = n) (h : ∀ j, j < n → (ath zs j).toNat = (ath xs j).toNat + c * (ath ys j).toNat) : ∀ i, i ≤ n → vw (zs.take i) = vw (xs.take i) + c * vw (ys.take i)
  | 0, _ => by simp [vw_nil]
  | i + 1, hi => by
    rw [vw_take_succ _ _ (by omega), vw_take_succ _ _ (by omega), vw_take_succ _ _ (by omega), vw_lin c xs ys zs n hx hy hz h i (by omega), h i (by omega), Nat.mul_add, Nat.mul_add, Nat.mul_left_comm c]
    omega
theorem vw_lin_all {k : Nat} (c : Nat) (xs ys zs : List (BitVec k)) (n : Nat) (hx : xs.length = n) (hy : ys.length = n) (hz : zs.length = n) (h : ∀ j, j < n → (ath zs j).toNat = (ath xs j).toNat + c * (ath ys j).toNat) : vw zs = vw xs + c * vw ys := by
  have := vw_lin c xs ys zs n hx hy hz h n (Nat.le_refl _)
  rwa [List.take_of_length_le (by omega), List.take_of_length_le (by omega), List.take_of_length_le (by omega)] at this
/-- Once less. -/
def red1 (v : Nat) : Nat := v % 1361129467683753853853498429727072845824 + 5 * (v / 1361129467683753853853498429727072845824)
theorem lowhigh_vw (v : Nat) (hv : v < 256 ^ 40) : vw (lowhigh v 40) = red1 v := by
  rw [vw_lin_all 5 (dig 32 40 (v % 1361129467683753853853498429727072845824)) (dig 32 40 (v / 1361129467683753853853498429727072845824)) (lowhigh v 40) 40 (dig_len _ _ _) (dig_len _ _ _) (lowhigh_len _ _) (fun j hj => lowhigh_atn v j hj), vw_dig _ _ _ (by omega), vw_dig _ _ _ (by omega)]
  unfold red1
  rw [Nat.mod_eq_of_lt (a := v % _) (Nat.lt_of_lt_of_le (Nat.mod_lt _ (by omega)) (by decide)), Nat.mod_eq_of_lt (a := v / _) (Nat.lt_of_le_of_lt (Nat.div_le_self _ _) hv)]
def redk (v : Nat) : Nat → Nat
  | 0 => v
  | k + 1 => red1 (redk v k)
theorem redk_zero (v : Nat) : redk v 0 = v := rfl
theorem redk_succ (v k : Nat) : redk v (k + 1) = red1 (redk v k) := rfl
theorem red1_mod (v : Nat) : red1 v % polyP = v % polyP := by
  have e : red1 v + polyP * (v / 1361129467683753853853498429727072845824) = v := by unfold red1; rw [polyP_eq]; omega
  conv => rhs; rw [← e, Nat.add_mul_mod_self_left]
theorem redk_mod (v : Nat) : ∀ k, redk v k % polyP = v % polyP
  | 0 => rfl
  | k + 1 => by rw [redk_succ, red1_mod, redk_mod v k]
theorem red1_le (v : Nat) : red1 v ≤ v := by unfold red1; omega
theorem redk_le (v : Nat) : ∀ k, redk v k ≤ v
  | 0 => Nat.le_refl _
  | k + 1 => Nat.le_trans (red1_le _) (redk_le v k)
theorem red1_lt1 (v : Nat) (h : v < 2 ^ 256) : red1 v < 2 ^ 174 := by
  unfold red1
  have e1 : (2 : Nat) ^ 256 = 115792089237316195423570985008687907853269984665640564039457584007913129639936 := rfl
  have e2 : (2 : Nat) ^ 174 = 23945242826029513411849172299223580994042798784118784 := rfl
  rw [e1] at h
  rw [e2]
  omega
theorem red1_lt2 (v : Nat) (h : v < 2 ^ 174) : red1 v < 1361129467683753853853498429727072845824 + 2 ^ 47 := by
  unfold red1
  have e2 : (2 : Nat) ^ 174 = 23945242826029513411849172299223580994042798784118784 := rfl
  have e3 : (2 : Nat) ^ 47 = 140737488355328 := rfl
  rw [e2] at h
  rw [e3]
  omega
theorem red1_lt3 (v : Nat) (h : v < 1361129467683753853853498429727072845824 + 2 ^ 47) : red1 v < 1361129467683753853853498429727072845824 := by
  unfold red1
  have e3 : (2 : Nat) ^ 47 = 140737488355328 := rfl
  rw [e3] at h
  omega
theorem redk_lt (v : Nat) (h : v < 2 ^ 256) : redk v 4 < 1361129467683753853853498429727072845824 :=
  Nat.lt_of_le_of_lt (red1_le _) (red1_lt3 _ (red1_lt2 _ (red1_lt1 _ h)))
theorem redk_lt40 (v k : Nat) (h : v < 2 ^ 256) : redk v k < 256 ^ 40 := by
  refine Nat.lt_of_le_of_lt (redk_le v k) (Nat.lt_of_lt_of_le h ?_)
  have e : (2 : Nat) ^ 256 = 256 ^ 32 := by
    have := Nat.pow_mul 2 8 32
    exact this
  rw [e]
  exact Nat.pow_le_pow_right (by omega) (by omega)
attribute [irreducible] cy cw redlow redhigh lowhigh red1 redk
end Go.Proofs.Ytlplpmkdebemnaa
namespace Go.Proofs.Ytlplpmkdebemnaa
set_option linter.unusedVariables false
set_option linter.unusedSimpArgs false
open Bv Fw
theorem vw_add {k : Nat} (xs : List (BitVec k)) (i : Nat) (v : BitVec k) (h : i < xs.length) (hb : (ath xs i).toNat + v.toNat < 2 ^ k) : vw (xs.set i (ath xs i + v)) = vw xs + 256 ^ i * v.toNat := by
  have h1 := vw_set xs i (ath xs i + v) h
  rw [BitVec.toNat_add, Nat.mod_eq_of_lt hb, Nat.mul_add] at h1
  omega
/-- Places to which, up to i, something was added. -/
def Bi {k : Nat} (i : Nat) (xs : List (BitVec k)) : Prop := ∀ j, (ath xs j).toNat < 256 ∨ (j < i ∧ (ath xs j).toNat < 512)
theorem bi_zero (n v : Nat) : Bi 0 (dig 32 n v) := fun j => .inl (dig_bd n v j)
theorem bi_step {xs : List (BitVec 32)} {i : Nat} (h : Bi i xs) (hi : i < xs.length) (v : BitVec 32) (hv : v.toNat < 256) : Bi (i + 1) (xs.set i (ath xs i + v)) := fun j => by
  rw [ath_set _ _ _ _ hi]
  split
  · next e =>
    subst e
    rcases h i with h1 | h1
    · rw [BitVec.toNat_add]; right; omega
    · omega
  · rcases h j with h1 | h1
    · exact .inl h1
    · exact .inr ⟨by omega, h1.2⟩
theorem bi_lt {xs : List (BitVec 32)} {i : Nat} (h : Bi i xs) : (ath xs i).toNat < 256 := by
  rcases h i with h1 | h1
  · exact h1
  · omega
theorem bi_bd {xs : List (BitVec 32)} {i : Nat} (h : Bi i xs) : Bd 512 xs := fun j => by rcases h j with h1 | h1 <;> omega
/-- A piece, added up to i. -/
def Ad (A : Nat) (b : List (BitVec 8)) (i : Nat) (xs : List (BitVec 32)) : Prop := xs.length = 40 ∧ vw xs = A + vw (b.take i) ∧ Bi i xs
theorem ad_zero (A : Nat) (b : List (BitVec 8)) (hA : A < 256 ^ 40) : Ad A b 0 (dig 32 40 A) := ⟨dig_len _ _ _, by rw [vw_dig _ _ _ (by omega), Nat.mod_eq_of_lt hA, List.take_zero, vw_nil]; rfl, bi_zero _ _⟩
theorem ad_step {A : Nat} {b : List (BitVec 8)} {i : Nat} {xs : List (BitVec 32)} (h : Ad A b i xs) (hi : i < b.length) (h40 : i < 40) (c : BitVec 8) (hc : c = ath b i) : Ad A b (i + 1) (xs.set i (ath xs i + c.setWidth 32)) := by
  obtain ⟨h1, h2, h3⟩ := h
  have hcl := c.isLt
  have hw : (c.setWidth 32).toNat = c.toNat := by rw [BitVec.toNat_setWidth]; omega
  refine ⟨by rw [List.length_set, h1], ?_, bi_step h3 (by omega) _ (by omega)⟩
  have h4 := bi_lt h3
  rw [vw_add xs i _ (by omega) (by omega), h2, hw, vw_take_succ b i hi, hc]
  omega
theorem ad_one {A : Nat} {b : List (BitVec 8)} {n : Nat} {xs : List (BitVec 32)} (h : Ad A b n xs) (hn : b.length = n) (h40 : n < 40) : (xs.set n (ath xs n + 1#32)).length = 40 ∧ vw (xs.set n (ath xs n + 1#32)) = A + pv b ∧ Bd 512 (xs.set n (ath xs n + 1#32)) := by
  obtain ⟨h1, h2, h3⟩ := h
  have e1 : (1#32).toNat = 1 := rfl
  have h4 := bi_lt h3
  refine ⟨by rw [List.length_set, h1], ?_, bi_bd (bi_step h3 (by omega) _ (by omega))⟩
  rw [vw_add xs n _ (by omega) (by omega), h2, e1, List.take_of_length_le (by omega)]
  unfold pv
  rw [hn]; omega
/-- Multiplied, up to place i and, of it, to place k. -/
def Mu (V R i k : Nat) (xs : List (BitVec 32)) : Prop := xs.length = 40 ∧ vw xs = V % 256 ^ i * R + V / 256 ^ i % 256 * (256 ^ i * (R % 256 ^ k)) ∧ Bd ((16 * i + k) * 65025 + 1) xs
theorem mu_zero (V R : Nat) : Mu V R 0 0 (List.replicate 40 0#32) := by
  refine ⟨by simp, ?_, fun j => ?_⟩
  · have : vw (List.replicate 40 0#32) = 0 := vw_rep0 40
    rw [this]; simp [Nat.mod_one]
  · have : ath (List.replicate 40 0#32) j = 0#32 := by
      unfold ath
      rw [List.getD_eq_getElem?_getD, List.getElem?_replicate]
      split <;> rfl
    rw [this]; simp
theorem mu_step {V R i k : Nat} {xs : List (BitVec 32)} (h : Mu V R i k xs) (hik : i + k < 40) (hi : i ≤ 18) (hk : k < 16) (x y : BitVec 32) (hx : x.toNat = V / 256 ^ i % 256) (hy : y.toNat = R / 256 ^ k % 256) : Mu V R i (k + 1) (xs.set (i + k) (ath xs (i + k) + x * y)) := by
  obtain ⟨h1, h2, h3⟩ := h
  have hxy : (x * y).toNat = x.toNat * y.toNat := by
    rw [BitVec.toNat_mul, Nat.mod_eq_of_lt]
    exact Nat.lt_of_le_of_lt (Nat.mul_le_mul (show x.toNat ≤ 255 by omega) (show y.toNat ≤ 255 by omega)) (by decide)
  have hle : x.toNat * y.toNat ≤ 65025 := Nat.mul_le_mul (show x.toNat ≤ 255 by omega) (show y.toNat ≤ 255 by omega)
  have h4 := h3 (i + k)
  have e32 : (2 : Nat) ^ 32 = 4294967296 := rfl
  refine ⟨by rw [List.length_set, h1], ?_, fun j => ?_⟩
  · rw [vw_add xs (i + k) _ (by omega) (by rw [hxy]; omega), h2, hxy, hx, hy, mod_pow_succ R k, Nat.pow_add, Nat.mul_add, Nat.mul_add]
    have e : 256 ^ i * 256 ^ k * (V / 256 ^ i % 256 * (R / 256 ^ k % 256)) = V / 256 ^ i % 256 * (256 ^ i * (256 ^ k * (R / 256 ^ k % 256))) := by ac_rfl
    rw [e]; omega
  · rw [ath_set _ _ _ _ (by omega)]
    split
    · next e => subst e; rw [BitVec.toNat_add, hxy]; omega
    · have h5 := h3 j; refine Nat.lt_of_lt_of_le h5 ?_; clear h5 hxy hle hx hy h2 h4 h3; omega
theorem mu_row {V R i : Nat} {xs : List (BitVec 32)} (h : Mu V R i 16 xs) (hR : R < 256 ^ 16) : Mu V R (i + 1) 0 xs := by
  obtain ⟨h1, h2, h3⟩ := h
  refine ⟨h1, ?_, fun j => by have := h3 j; omega⟩
  rw [h2, mod_pow_succ V i, Nat.mod_eq_of_lt hR]
  simp only [Nat.pow_zero, Nat.mod_one, Nat.mul_zero, Nat.add_zero]
  rw [Nat.add_mul]
  have e : 256 ^ i * (V / 256 ^ i % 256) * R = V / 256 ^ i % 256 * (256 ^ i * R) := by ac_rfl
  rw [e]
theorem mu_all {V R i : Nat} {xs : List (BitVec 32)} (h : Mu V R i 0 xs) (hi : i = 18) (hV : V < 256 ^ 18) : vw xs = V * R ∧ Bd 30000000 xs := by
  obtain ⟨h1, h2, h3⟩ := h
  refine ⟨?_, fun j => by have := h3 j; omega⟩
  rw [← hi] at hV
  rw [h2, Nat.mod_eq_of_lt hV, Nat.pow_zero, Nat.mod_one, Nat.mul_zero, Nat.mul_zero, Nat.add_zero]
theorem clampb_dig (key : List (BitVec 8)) (k : Nat) (h : k < 16) : (ath (clampb key) k).toNat = pr key / 256 ^ k % 256 := by
  have e := dig_vw (clampb key) 16 (clampb_len key)
  have h1 := dig_at_nat 8 16 (vw (clampb key)) k (by omega) h
  rw [e] at h1
  unfold pr; exact h1
theorem pr_lt16 (key : List (BitVec 8)) : pr key < 256 ^ 16 := Nat.lt_of_lt_of_le (pr_lt key) (by decide)
/-- Made least. -/
theorem dig_add16 (x y : Nat) (hx : x < 256 ^ 16) (j : Nat) : (x + 256 ^ 16 * y) / 256 ^ j % 256 = if j < 16 then x / 256 ^ j % 256 else y / 256 ^ (j - 16) % 256 := by
  split
  · next h =>
    obtain ⟨d, hd⟩ : ∃ d, 16 = j + 1 + d := ⟨15 - j, by omega⟩
    rw [hd, Nat.pow_add, Nat.pow_succ, Nat.mul_assoc (256 ^ j), Nat.mul_assoc (256 ^ j), Nat.add_mul_div_left _ _ (Nat.pow_pos (by omega)), Nat.mul_assoc, Nat.add_mul_mod_self_left]
  · next h =>
    obtain ⟨d, rfl⟩ : ∃ d, j = 16 + d := ⟨j - 16, by omega⟩
    rw [Nat.pow_add, ← Nat.div_div_eq_div_mul, Nat.add_mul_div_left _ _ (Nat.pow_pos (by omega)), Nat.div_eq_of_lt hx, Nat.zero_add, Nat.add_sub_cancel_left]
theorem least_lo (A : Nat) (h : (ath (dig 32 40 (A + 5)) 16).toNat < 4) (hA : A < 1361129467683753853853498429727072845824) : A = A % polyP := by
  rw [dig_at_nat _ _ _ _ (by omega) (by omega), pow_16] at h
  rw [polyP_eq]
  omega
theorem least_hi (A : Nat) (h : ¬ (ath (dig 32 40 (A + 5)) 16).toNat < 4) (hA : A < 1361129467683753853853498429727072845824) : (dig 32 40 (A + 5)).set 16 (ath (dig 32 40 (A + 5)) 16 - 4#32) = dig 32 40 (A % polyP) := by
  rw [dig_at_nat _ _ _ _ (by omega) (by omega), pow_16] at h
  have e1 : A + 5 = (A % polyP) + 256 ^ 16 * 4 := by rw [polyP_eq, pow_16]; omega
  have e2 : A % polyP < 256 ^ 16 := by rw [polyP_eq, pow_16]; omega
  have e3 : A % polyP = A % polyP + 256 ^ 16 * 0 := by omega
  have h16 : ath (dig 32 40 (A + 5)) 16 = 4#32 := by
    rw [dig_at _ _ _ _ (by omega), e1, dig_add16 _ _ e2]; rfl
  refine set_of_at (by rw [dig_len, dig_len]) (by rw [dig_len]; omega) ?_ (fun j hj hne => ?_)
  · rw [h16, dig_at _ _ _ _ (by omega)]
    conv => rhs; rw [e3, dig_add16 _ _ e2]
    rw [if_neg (by omega)]; simp
  · rw [dig_len] at hj
    rw [dig_at _ _ _ _ hj, dig_at _ _ _ _ hj, e1, dig_add16 _ _ e2]
    conv => rhs; rw [e3, dig_add16 _ _ e2]
    split
    · rfl
    · obtain ⟨d, hd⟩ : ∃ d, j - 16 = d + 1 := ⟨j - 17, by omega⟩
      rw [hd, Nat.pow_succ, Nat.mul_comm, ← Nat.div_div_eq_div_mul]; simp
/-- Bytes, the first j of them, and zeros behind. -/
def prez (xs : List (BitVec 8)) (n j : Nat) : List (BitVec 8) := xs.take j ++ List.replicate (n - j) 0#8
theorem prez_zero (xs : List (BitVec 8)) (n : Nat) : List.replicate n 0#8 = prez xs n 0 := by simp [prez]
theorem prez_all (xs : List (BitVec 8)) (n : Nat) (h : xs.length = n) : prez xs n n = xs := by simp [prez, ← h]
theorem prez_len (xs : List (BitVec 8)) (n j : Nat) (h : xs.length = n) (hj : j ≤ n) : (prez xs n j).length = n := by simp [prez]; omega
theorem prez_set (xs : List (BitVec 8)) (n j : Nat) (h : xs.length = n) (hj : j < n) (v : BitVec 8) (hv : v = ath xs j) : (prez xs n j).set j v = prez xs n (j + 1) := by
  unfold prez
  have hl : (xs.take j).length = j := by rw [List.length_take]; omega
  rw [List.set_append_right _ _ (by omega), hl, Nat.sub_self, show n - j = (n - (j + 1)) + 1 by omega, List.replicate_succ, List.set_cons_zero, hv, take_succ_ath xs j (by omega)]
  simp
theorem dig_byte (v j : Nat) (h : j < 16) : (ath (dig 32 40 v) j).setWidth 8 = ath (dig 8 16 v) j := by
  rw [dig_at _ _ _ _ (by omega), dig_at _ _ _ _ h]
  apply BitVec.eq_of_toNat_eq
  rw [BitVec.toNat_setWidth, BitVec.toNat_ofNat, BitVec.toNat_ofNat]
  omega
theorem ptag_of (key t : List (BitVec 8)) (A : Nat) (hA : A = pacc (pr key) t ((t.length + 15) / 16)) : dig 8 16 (A + ps key) = ptag key t := by rw [ptag_def, hA]
/-- One piece more, in the reference. -/
theorem ref_piece (V R A : Nat) (hA : A = redk (V * R) 4) (hV : V < 2 ^ 131) (hR : R < 2 ^ 124) : A < 1361129467683753853853498429727072845824 ∧ A % polyP = V * R % polyP := by
  subst hA
  refine ⟨redk_lt _ ?_, redk_mod _ _⟩
  have h : V * R < 2 ^ 131 * 2 ^ 124 := Nat.mul_lt_mul'' hV hR
  exact Nat.lt_trans h (by decide)
theorem pacc_next (r : Nat) (t : List (BitVec 8)) (k A V : Nat) (hA : A % polyP = pacc r t k) (hV : V = A + pv (pblk t k)) : V * r % polyP = pacc r t (k + 1) := by
  rw [pacc_succ, ← hA, hV, Nat.mul_mod]
  conv => rhs; rw [Nat.mul_mod, Nat.add_mod, Nat.mod_mod, ← Nat.add_mod]
attribute [irreducible] Ad Mu prez
end Go.Proofs.Ytlplpmkdebemnaa
namespace Go.Proofs.Ytlplpmkdebemnaa
set_option linter.unusedVariables false
set_option linter.unusedSimpArgs false
set_option linter.unnecessarySimpa false
set_option maxRecDepth 100000
open Go.RowKit Bv Fw

theorem add64_at (x y c : BitVec 64) (hc : c.toNat ≤ 1) : ∃ s d : BitVec 64, s.toNat + 18446744073709551616 * d.toNat = x.toNat + y.toNat + c.toNat ∧ d.toNat ≤ 1 ∧ ∀ w, (callFunc 100 [b64 x, b64 y, b64 c].toArray).run Try.prog w = .ok (.value (.tuple [b64 s, b64 d].toArray)) w :=
  add64_ext Try.func100 (by kernel_rfl) (by kernel_rfl) (by kernel_rfl) (by kernel_rfl) x y c hc
theorem mul64_ex (x y : BitVec 64) : ∃ h l : BitVec 64, 18446744073709551616 * h.toNat + l.toNat = x.toNat * y.toNat ∧ h = (x >>> 32) * (y >>> 32) + (((x >>> 32) * (y &&& 4294967295#64) + (((x &&& 4294967295#64) * (y &&& 4294967295#64)) >>> 32)) >>> 32) + (((((x >>> 32) * (y &&& 4294967295#64) + (((x &&& 4294967295#64) * (y &&& 4294967295#64)) >>> 32)) &&& 4294967295#64) + (x &&& 4294967295#64) * (y >>> 32)) >>> 32) ∧ l = x * y :=
  ⟨_, _, mul64_law x y, rfl, rfl⟩

set_option maxHeartbeats 4000000 in
theorem mul64_f (x : BitVec 64) (y : BitVec 64) (w : World) (hO : HOK [] w)  : Calls Try.prog 101 [(b64 x), (b64 y)].toArray w (Ret (T := BitVec 64 × BitVec 64) [] w (fun ⟨h, l⟩ => 18446744073709551616 * h.toNat + l.toNat = x.toNat * y.toNat) (fun ⟨h, l⟩ => (.tuple [(b64 h), (b64 l)].toArray)) (fun ⟨h, l⟩ => [])) := by
 obtain ⟨h, l, hhl, hh, hl⟩ := mul64_ex x y
 have hF : Wid Fence.wide := wid_wide
 refine enter (c := _) Try.func101 rfl [] _ [] (by rw [Try.ntmps101]; rfl) (own_rds hO rfl) ?_
 rw [Try.ntmps101]
 refine T_re [(0, (b64 x)), (1, (b64 y))] (sc rfl (sc rfl sn)) ?_
 refine T_he [] [] ⟨by decide, rfl⟩ ?_
 refine Tsr hF rfl ?_
 refine la rfl rfl rfl rfl rfl ?_
 refine la rfl rfl rfl rfl rfl ?_
 refine L_nil ?_
 refine Tsr hF rfl ?_
 refine lm rfl rfl rfl rfl rfl ?_
 refine lo rfl (pr_and (ib_and64 _ (4294967295#64)) rfl rfl rfl) rfl rfl ?_
 refine la rfl rfl rfl rfl rfl ?_
 refine L_nil ?_
 refine Tsr hF rfl ?_
 refine lm rfl rfl rfl rfl rfl ?_
 refine lo rfl (pr_shift (sh_shr64 x _ 32) rfl rfl rfl rfl) rfl rfl ?_
 refine la rfl rfl rfl rfl rfl ?_
 refine L_nil ?_
 refine Tsr hF rfl ?_
 refine lm rfl rfl rfl rfl rfl ?_
 refine lo rfl (pr_and (ib_and64 _ (4294967295#64)) rfl rfl rfl) rfl rfl ?_
 refine la rfl rfl rfl rfl rfl ?_
 refine L_nil ?_
 refine Tsr hF rfl ?_
 refine lm rfl rfl rfl rfl rfl ?_
 refine lo rfl (pr_shift (sh_shr64 y _ 32) rfl rfl rfl rfl) rfl rfl ?_
 refine la rfl rfl rfl rfl rfl ?_
 refine L_nil ?_
 refine Tsr hF rfl ?_
 refine lm rfl rfl rfl rfl rfl ?_
 refine lm rfl rfl rfl rfl rfl ?_
 refine lo rfl (pr_mul (mul64 _ _) rfl rfl rfl) rfl rfl ?_
 refine la rfl rfl rfl rfl rfl ?_
 refine L_nil ?_
 refine Tsr hF rfl ?_
 refine lm rfl rfl rfl rfl rfl ?_
 refine lm rfl rfl rfl rfl rfl ?_
 refine lo rfl (pr_mul (mul64 _ _) rfl rfl rfl) rfl rfl ?_
 refine lm rfl rfl rfl rfl rfl ?_
 refine lo rfl (pr_shift (sh_shr64 ((x &&& 4294967295#64) * (y &&& 4294967295#64)) _ 32) rfl rfl rfl rfl) rfl rfl ?_
 refine lo rfl (pr_add (add64 _ _) rfl rfl rfl) rfl rfl ?_
 refine la rfl rfl rfl rfl rfl ?_
 refine L_nil ?_
 refine Tsr hF rfl ?_
 refine lm rfl rfl rfl rfl rfl ?_
 refine lo rfl (pr_and (ib_and64 _ (4294967295#64)) rfl rfl rfl) rfl rfl ?_
 refine la rfl rfl rfl rfl rfl ?_
 refine L_nil ?_
 refine Tsr hF rfl ?_
 refine lm rfl rfl rfl rfl rfl ?_
 refine lo rfl (pr_shift (sh_shr64 (((x >>> 32) * (y &&& 4294967295#64)) + (((x &&& 4294967295#64) * (y &&& 4294967295#64)) >>> 32)) _ 32) rfl rfl rfl rfl) rfl rfl ?_
 refine la rfl rfl rfl rfl rfl ?_
 refine L_nil ?_
 refine Tsr hF rfl ?_
 refine lm rfl rfl rfl rfl rfl ?_
 refine lm rfl rfl rfl rfl rfl ?_
 refine lm rfl rfl rfl rfl rfl ?_
 refine lo rfl (pr_mul (mul64 _ _) rfl rfl rfl) rfl rfl ?_
 refine lo rfl (pr_add (add64 _ _) rfl rfl rfl) rfl rfl ?_
 refine la rfl rfl rfl rfl rfl ?_
 refine L_nil ?_
 refine Tsr hF rfl ?_
 refine lm rfl rfl rfl rfl rfl ?_
 refine lm rfl rfl rfl rfl rfl ?_
 refine lo rfl (pr_mul (mul64 _ _) rfl rfl rfl) rfl rfl ?_
 refine lm rfl rfl rfl rfl rfl ?_
 refine lo rfl (pr_add (add64 _ _) rfl rfl rfl) rfl rfl ?_
 refine lm rfl rfl rfl rfl rfl ?_
 refine lo rfl (pr_shift (sh_shr64 (((((x >>> 32) * (y &&& 4294967295#64)) + (((x &&& 4294967295#64) * (y &&& 4294967295#64)) >>> 32)) &&& 4294967295#64) + ((x &&& 4294967295#64) * (y >>> 32))) _ 32) rfl rfl rfl rfl) rfl rfl ?_
 refine lo rfl (pr_add (add64 _ _) rfl rfl rfl) rfl rfl ?_
 refine la rfl rfl rfl rfl rfl ?_
 refine L_nil ?_
 refine Tsr hF rfl ?_
 refine lm rfl rfl rfl rfl rfl ?_
 refine lm rfl rfl rfl rfl rfl ?_
 refine lo rfl (pr_mul (mul64 _ _) rfl rfl rfl) rfl rfl ?_
 refine la rfl rfl rfl rfl rfl ?_
 refine L_nil ?_
 refine T_ret ?_
 refine T_slot 4 _ (b64 h) rfl (by first | rw [hh] | rw [hl]) ?_
 refine T_slot 5 (b64 (x * y)) (b64 l) rfl (by first | rw [hh] | rw [hl]) ?_
 exact T_fin (h, l) (hhl) (res2 rfl rfl rfl) [] ⟨by decide, rfl⟩ rfl
set_option maxHeartbeats 4000000 in
theorem plus_f (a0 : BitVec 64) (a1 : BitVec 64) (a2 : BitVec 64) (x : BitVec 64) (y : BitVec 64) (z : BitVec 64) (w : World) (hO : HOK [] w) (hb : a2.toNat + z.toNat + 1 < 18446744073709551616) : Calls Try.prog 92 [(.agg [(b64 a0), (b64 a1), (b64 a2)].toArray), (b64 x), (b64 y), (b64 z)].toArray w (Ret (T := BitVec 64 × BitVec 64 × BitVec 64) [] w (fun ⟨b0, b1, b2⟩ => v3 b0 b1 b2 = v3 a0 a1 a2 + v3 x y z) (fun ⟨b0, b1, b2⟩ => (.agg [(b64 b0), (b64 b1), (b64 b2)].toArray)) (fun ⟨b0, b1, b2⟩ => [])) := by
 have hF : Wid Fence.wide := wid_wide
 refine enter (c := _) Try.func92 rfl [] _ [] (by rw [Try.ntmps92]; rfl) (own_rds hO rfl) ?_
 rw [Try.ntmps92]
 refine T_re [(0, (.agg [(b64 a0), (b64 a1), (b64 a2)].toArray)), (1, (b64 x)), (2, (b64 y)), (3, (b64 z))] (sc rfl (sc rfl (sc rfl (sc rfl sn)))) ?_
 refine T_he [] [] ⟨by decide, rfl⟩ ?_
 refine Tsr hF rfl ?_
 refine L_op rfl (op_box (zs := [(b64 a0), (b64 a1), (b64 a2)]) rfl rfl rfl rfl rfl (fun g1 => ?_))
 refine L_op rfl (op_alloc (z := .agg [(b64 (0#64)), (b64 (0#64)), (b64 (0#64))].toArray) (zs := [(b64 (0#64)), (b64 (0#64)), (b64 (0#64))]) kr rfl rfl rfl rfl (fun g2 => ?_))
 refine L_nil ?_
 refine Tsr hF rfl ?_
 refine la rfl rfl rfl rfl rfl ?_
 refine L_nil ?_
 refine Tsr hF rfl ?_
 refine lo rfl (pr_ixa (j := 0) (m' := 0) sd (by omega) Try.underlying141 (z := 1) kr rfl rfl rfl) rfl rfl ?_
 refine lq rfl (ld_blk 1 rfl rfl Try.underlying30 rfl rfl rfl) rfl rfl ?_
 refine lm rfl rfl rfl rfl rfl ?_
 obtain ⟨s3, d4, ha_5, hb_6, hv_7⟩ := add64_at a0 x (0#64) (by first | assumption | decide)
 refine lo rfl (pr_extern hv_7 rfl rfl rfl) rfl rfl ?_
 refine lm rfl rfl rfl rfl rfl ?_
 refine lo rfl (pr_ext (vs := [(b64 s3), (b64 d4)]) rfl rfl rfl) rfl rfl ?_
 refine lo rfl (pr_ext (vs := [(b64 s3), (b64 d4)]) rfl rfl rfl) rfl rfl ?_
 refine lo rfl (pr_ixa (j := 0) (m' := 0) sd (by omega) Try.underlying141 (z := 1) kr rfl rfl rfl) rfl rfl ?_
 refine L_op rfl (op_store (vs := [(b64 s3)]) (cs' := [(b64 s3), (b64 a1), (b64 a2)]) 1 rfl rfl kr (one_one rfl) (by first | decide | simp | exact Nat.le_refl _) rfl rfl rfl rfl rfl ?_)
 refine la rfl rfl rfl rfl rfl ?_
 refine L_nil ?_
 refine Tsr hF rfl ?_
 refine lo rfl (pr_ixa (j := 1) (m' := 1) sd (by omega) Try.underlying141 (z := 1) kr rfl rfl rfl) rfl rfl ?_
 refine lq rfl (ld_blk 0 rfl rfl Try.underlying30 rfl rfl rfl) rfl rfl ?_
 refine lm rfl rfl rfl rfl rfl ?_
 refine lm rfl rfl rfl rfl rfl ?_
 obtain ⟨s8, d9, ha_10, hb_11, hv_12⟩ := add64_at a1 y d4 (by first | assumption | decide)
 refine lo rfl (pr_extern hv_12 rfl rfl rfl) rfl rfl ?_
 refine lm rfl rfl rfl rfl rfl ?_
 refine lo rfl (pr_ext (vs := [(b64 s8), (b64 d9)]) rfl rfl rfl) rfl rfl ?_
 refine lo rfl (pr_ext (vs := [(b64 s8), (b64 d9)]) rfl rfl rfl) rfl rfl ?_
 refine lo rfl (pr_ixa (j := 1) (m' := 1) sd (by omega) Try.underlying141 (z := 1) kr rfl rfl rfl) rfl rfl ?_
 refine L_op rfl (op_store (vs := [(b64 s8)]) (cs' := [(b64 s3), (b64 s8), (b64 a2)]) 0 rfl rfl kr (one_one rfl) (by first | decide | simp | exact Nat.le_refl _) rfl rfl rfl rfl rfl ?_)
 refine la rfl rfl rfl rfl rfl ?_
 refine L_nil ?_
 refine Tsr hF rfl ?_
 refine lo rfl (pr_ixa (j := 2) (m' := 2) sd (by omega) Try.underlying141 (z := 1) kr rfl rfl rfl) rfl rfl ?_
 refine lq rfl (ld_blk 0 rfl rfl Try.underlying30 rfl rfl rfl) rfl rfl ?_
 refine lm rfl rfl rfl rfl rfl ?_
 refine lm rfl rfl rfl rfl rfl ?_
 refine lo rfl (pr_add (add64 _ _) rfl rfl rfl) rfl rfl ?_
 refine lo rfl (pr_add (add64 _ _) rfl rfl rfl) rfl rfl ?_
 refine lo rfl (pr_ixa (j := 2) (m' := 2) sd (by omega) Try.underlying141 (z := 1) kr rfl rfl rfl) rfl rfl ?_
 refine L_op rfl (op_store (vs := [(b64 (a2 + (z + d9)))]) (cs' := [(b64 s3), (b64 s8), (b64 (a2 + (z + d9)))]) 0 rfl rfl kr (one_one rfl) (by first | decide | simp | exact Nat.le_refl _) rfl rfl rfl rfl rfl ?_)
 refine L_nil ?_
 refine Tsr hF rfl ?_
 refine lq rfl (ld_agg (ds := [(b64 s3), (b64 s8), (b64 (a2 + (z + d9)))]) 0 rfl agg_all Try.underlying141 rfl kr rfl rfl) rfl rfl ?_
 refine L_op rfl (op_sto (n := 3) (vs := [(b64 s3), (b64 s8), (b64 (a2 + (z + d9)))]) 1 rfl rfl kr (by simp [Value.oneCell']) kr kr rfl rfl rfl rfl ?_)
 refine L_nil ?_
 refine T_ret ?_
 exact T_fin (s3, s8, (a2 + (z + d9))) (plus_law (by assumption) (by assumption) (by assumption) hb) (resb 0 rfl rfl rfl Try.underlying141 rfl kr) [] ⟨by decide, rfl⟩ rfl
/-- One place, without some bits. -/
def setand (xs : List (BitVec 8)) (i : Nat) (b : BitVec 8) : List (BitVec 8) := xs.set i (ath xs i &&& b)
theorem setand_def (xs : List (BitVec 8)) (i : Nat) (b : BitVec 8) : xs.set i (ath xs i &&& b) = setand xs i b := rfl
theorem setand_len (xs : List (BitVec 8)) (i : Nat) (b : BitVec 8) : (setand xs i b).length = xs.length := by simp [setand]
theorem ath_setand (xs : List (BitVec 8)) (i j : Nat) (b : BitVec 8) (h : i < xs.length) : ath (setand xs i b) j = if i = j then ath xs j &&& b else ath xs j := by
  unfold setand
  rw [ath_set _ _ _ _ h]
  split
  · next e => rw [e]
  · rfl
theorem clamp_hand (key : List (BitVec 8)) (h : key.length = 32) : setand (setand (setand (setand (setand (setand (setand (List.take 16 key) 3 15#8) 7 15#8) 11 15#8) 15 15#8) 4 252#8) 8 252#8) 12 252#8 = clampb key := by
  have hl : (List.take 16 key).length = 16 := by simp; omega
  refine ext_ath (by simp only [setand_len, clampb_len, hl]) (fun j hj => ?_)
  simp only [setand_len, hl] at hj
  rw [clampb_at _ _ hj]
  rw [ath_setand _ _ _ _ (by simp only [setand_len, hl]; omega), ath_setand _ _ _ _ (by simp only [setand_len, hl]; omega), ath_setand _ _ _ _ (by simp only [setand_len, hl]; omega), ath_setand _ _ _ _ (by simp only [setand_len, hl]; omega), ath_setand _ _ _ _ (by simp only [setand_len, hl]; omega), ath_setand _ _ _ _ (by simp only [setand_len, hl]; omega), ath_setand _ _ _ _ (by simp only [setand_len, hl]; omega), ath_take _ _ _ hj]
  rcases (by omega : j = 0 ∨ j = 1 ∨ j = 2 ∨ j = 3 ∨ j = 4 ∨ j = 5 ∨ j = 6 ∨ j = 7 ∨ j = 8 ∨ j = 9 ∨ j = 10 ∨ j = 11 ∨ j = 12 ∨ j = 13 ∨ j = 14 ∨ j = 15) with rfl | rfl | rfl | rfl | rfl | rfl | rfl | rfl | rfl | rfl | rfl | rfl | rfl | rfl | rfl | rfl <;> simp
attribute [irreducible] setand

set_option maxHeartbeats 4000000 in
theorem clamp_f (key : List (BitVec 8)) (w : World) (hO : HOK [] w) (hkl : key.length = 32) : Calls Try.prog 90 [(.agg (key.map b8).toArray)].toArray w (Ret (T := Unit) [] w (fun _ => True) (fun _ => (.agg ((clampb key).map b8).toArray)) (fun _ => [])) := by
 have hcl := clampb_len key
 have htl : (List.take 16 key).length = 16 := by simp; omega
 have hF : Wid Fence.wide := wid_wide
 refine enter (c := _) Try.func90 rfl [] _ [] (by rw [Try.ntmps90]; rfl) (own_rds hO rfl) ?_
 rw [Try.ntmps90]
 refine T_re [(0, (.agg (key.map b8).toArray))] (sc rfl sn) ?_
 refine T_he [] [] ⟨by decide, rfl⟩ ?_
 refine Tsr hF rfl ?_
 refine L_op rfl (op_box (zs := (key.map b8)) rfl rfl rfl rfl rfl (fun g1 => ?_))
 refine L_op rfl (op_alloc (z := .agg ((List.replicate 16 0#8).map b8).toArray) (zs := ((List.replicate 16 0#8).map b8)) kr rfl rfl rfl rfl (fun g2 => ?_))
 refine L_nil ?_
 refine Tsr hF rfl ?_
 refine lo rfl (pr_sla (l := 0) (u := 16) (m := 0) sd sd sd rfl Try.underlying50 (z := 1) kr rfl rfl rfl ⟨_, rfl⟩) rfl rfl ?_
 refine lo rfl (pr_s2a sd Try.underlying113 rfl rfl) rfl rfl ?_
 refine lq rfl (ld_agg (ds := ((List.take 16 key).map b8)) 1 rfl (by simp [List.map_take, List.map_drop]) Try.underlying113 rfl (fwz (n := 16) kr sd) rfl rfl) rfl rfl ?_
 refine L_op rfl (op_alloc (z := .agg ((List.replicate 16 0#8).map b8).toArray) (zs := ((List.replicate 16 0#8).map b8)) kr rfl rfl rfl rfl (fun g3 => ?_))
 refine L_op rfl (op_sto (n := 16) (vs := ((List.take 16 key).map b8)) 0 rfl rfl kr (all8_one _) kr sd rfl rfl rfl rfl ?_)
 refine L_nil ?_
 refine T_seq ?_
 refine Tsr hF rfl ?_
 refine L_op rfl (op_bslice (e := 3) (zs := [(.int .i64 ((3 : Nat) : Int)), (.int .i64 ((7 : Nat) : Int)), (.int .i64 ((11 : Nat) : Int)), (.int .i64 ((15 : Nat) : Int))]) (qs := [(0, (.int .i64 ((3 : Nat) : Int))), (1, (.int .i64 ((7 : Nat) : Int))), (2, (.int .i64 ((11 : Nat) : Int))), (3, (.int .i64 ((15 : Nat) : Int)))]) (fun _ => by kernel_rfl) rfl rfl rfl rfl (fun g4 => ?_))
 refine lo rfl (pr_len_sl Try.underlying150 rfl rfl) rfl rfl ?_
 refine lm rfl rfl rfl rfl rfl ?_
 refine L_nil ?_
 refine T_block ?_
 refine T_rounds 5 ?_
 refine T_round ?_
 refine Tsr hF rfl ?_
 refine lo rfl (pr_cmp (bo := .lss) (nc_lt (a := 0) (b := 4)) rfl rfl rfl rfl) rfl rfl ?_
 refine L_nil ?_
 refine T_seq ?_
 refine T_cond_t rfl ?_
 refine T_skip ?_
 refine T_seq ?_
 refine T_block ?_
 refine Tsr hF rfl ?_
 refine lo rfl (pr_ixb (j := 0) (m' := 0) sd (by omega) Try.underlying150 (z := 1) kr rfl rfl rfl) rfl rfl ?_
 refine lq rfl (ld_blk 0 rfl rfl Try.underlying3 rfl rfl rfl) rfl rfl ?_
 refine la rfl rfl rfl rfl rfl ?_
 refine L_nil ?_
 refine T_reg hF rfl ?_
 refine lm rfl rfl rfl rfl rfl ?_
 refine lo rfl (pr_ixa (j := 3) (m' := 3) sd (by omega) Try.underlying113 (z := 1) kr rfl rfl rfl) rfl rfl ?_
 refine lq rfl (ld_blk 1 rfl (get8 sd) Try.underlying5 rfl rfl rfl) rfl rfl ?_
 refine lo rfl (pr_and (ib_and8 _ (15#8)) rfl rfl rfl) rfl rfl ?_
 refine lo rfl (pr_ixa (j := 3) (m' := 3) sd (by omega) Try.underlying113 (z := 1) kr rfl rfl rfl) rfl rfl ?_
 refine L_op rfl (op_store (vs := [(b8 ((ath (List.take 16 key) 3) &&& 15#8))]) (cs' := ((List.set (List.take 16 key) 3 ((ath (List.take 16 key) 3) &&& 15#8)).map b8)) 1 rfl rfl kr (one_one rfl) (stl sd) (splice_map (f := b8) sd) rfl rfl rfl rfl ?_)
 refine L_nil ?_
 refine T_reg hF rfl ?_
 refine lo rfl (pr_add (na_i64 (a := 0) (b := 1) sd) rfl rfl rfl) rfl rfl ?_
 refine lm rfl rfl rfl rfl rfl ?_
 refine L_nil ?_
 refine T_round ?_
 refine T_as 0 _ (.blk g3 113 ((setand (List.take 16 key) 3 15#8).map b8)) rfl (by rw [setand_def]) ?_
 have hse2 : ((setand (List.take 16 key) 3 15#8)).length = 16 := by simp only [setand_len]; omega
 refine Tsr hF rfl ?_
 refine lo rfl (pr_cmp (bo := .lss) (nc_lt (a := 1) (b := 4)) rfl rfl rfl rfl) rfl rfl ?_
 refine L_nil ?_
 refine T_seq ?_
 refine T_cond_t rfl ?_
 refine T_skip ?_
 refine T_seq ?_
 refine T_block ?_
 refine Tsr hF rfl ?_
 refine lo rfl (pr_ixb (j := 1) (m' := 1) sd (by omega) Try.underlying150 (z := 1) kr rfl rfl rfl) rfl rfl ?_
 refine lq rfl (ld_blk 1 rfl rfl Try.underlying3 rfl rfl rfl) rfl rfl ?_
 refine la rfl rfl rfl rfl rfl ?_
 refine L_nil ?_
 refine T_reg hF rfl ?_
 refine lm rfl rfl rfl rfl rfl ?_
 refine lo rfl (pr_ixa (j := 7) (m' := 7) sd (by omega) Try.underlying113 (z := 1) kr rfl rfl rfl) rfl rfl ?_
 refine lq rfl (ld_blk 0 rfl (get8 sd) Try.underlying5 rfl rfl rfl) rfl rfl ?_
 refine lo rfl (pr_and (ib_and8 _ (15#8)) rfl rfl rfl) rfl rfl ?_
 refine lo rfl (pr_ixa (j := 7) (m' := 7) sd (by omega) Try.underlying113 (z := 1) kr rfl rfl rfl) rfl rfl ?_
 refine L_op rfl (op_store (vs := [(b8 ((ath (setand (List.take 16 key) 3 15#8) 7) &&& 15#8))]) (cs' := ((List.set (setand (List.take 16 key) 3 15#8) 7 ((ath (setand (List.take 16 key) 3 15#8) 7) &&& 15#8)).map b8)) 0 rfl rfl kr (one_one rfl) (stl sd) (splice_map (f := b8) sd) rfl rfl rfl rfl ?_)
 refine L_nil ?_
 refine T_reg hF rfl ?_
 refine lo rfl (pr_add (na_i64 (a := 1) (b := 1) sd) rfl rfl rfl) rfl rfl ?_
 refine lm rfl rfl rfl rfl rfl ?_
 refine L_nil ?_
 refine T_round ?_
 refine T_as 0 _ (.blk g3 113 ((setand (setand (List.take 16 key) 3 15#8) 7 15#8).map b8)) rfl (by rw [setand_def]) ?_
 have hse3 : ((setand (setand (List.take 16 key) 3 15#8) 7 15#8)).length = 16 := by simp only [setand_len]; omega
 refine Tsr hF rfl ?_
 refine lo rfl (pr_cmp (bo := .lss) (nc_lt (a := 2) (b := 4)) rfl rfl rfl rfl) rfl rfl ?_
 refine L_nil ?_
 refine T_seq ?_
 refine T_cond_t rfl ?_
 refine T_skip ?_
 refine T_seq ?_
 refine T_block ?_
 refine Tsr hF rfl ?_
 refine lo rfl (pr_ixb (j := 2) (m' := 2) sd (by omega) Try.underlying150 (z := 1) kr rfl rfl rfl) rfl rfl ?_
 refine lq rfl (ld_blk 1 rfl rfl Try.underlying3 rfl rfl rfl) rfl rfl ?_
 refine la rfl rfl rfl rfl rfl ?_
 refine L_nil ?_
 refine T_reg hF rfl ?_
 refine lm rfl rfl rfl rfl rfl ?_
 refine lo rfl (pr_ixa (j := 11) (m' := 11) sd (by omega) Try.underlying113 (z := 1) kr rfl rfl rfl) rfl rfl ?_
 refine lq rfl (ld_blk 0 rfl (get8 sd) Try.underlying5 rfl rfl rfl) rfl rfl ?_
 refine lo rfl (pr_and (ib_and8 _ (15#8)) rfl rfl rfl) rfl rfl ?_
 refine lo rfl (pr_ixa (j := 11) (m' := 11) sd (by omega) Try.underlying113 (z := 1) kr rfl rfl rfl) rfl rfl ?_
 refine L_op rfl (op_store (vs := [(b8 ((ath (setand (setand (List.take 16 key) 3 15#8) 7 15#8) 11) &&& 15#8))]) (cs' := ((List.set (setand (setand (List.take 16 key) 3 15#8) 7 15#8) 11 ((ath (setand (setand (List.take 16 key) 3 15#8) 7 15#8) 11) &&& 15#8)).map b8)) 0 rfl rfl kr (one_one rfl) (stl sd) (splice_map (f := b8) sd) rfl rfl rfl rfl ?_)
 refine L_nil ?_
 refine T_reg hF rfl ?_
 refine lo rfl (pr_add (na_i64 (a := 2) (b := 1) sd) rfl rfl rfl) rfl rfl ?_
 refine lm rfl rfl rfl rfl rfl ?_
 refine L_nil ?_
 refine T_round ?_
 refine T_as 0 _ (.blk g3 113 ((setand (setand (setand (List.take 16 key) 3 15#8) 7 15#8) 11 15#8).map b8)) rfl (by rw [setand_def]) ?_
 have hse4 : ((setand (setand (setand (List.take 16 key) 3 15#8) 7 15#8) 11 15#8)).length = 16 := by simp only [setand_len]; omega
 refine Tsr hF rfl ?_
 refine lo rfl (pr_cmp (bo := .lss) (nc_lt (a := 3) (b := 4)) rfl rfl rfl rfl) rfl rfl ?_
 refine L_nil ?_
 refine T_re [(2, (.pointer (some ⟨g2, 0, none⟩))), (3, (.pointer (some ⟨g3, 0, none⟩))), (11, (.slice (some ⟨g4, 0, none⟩) 4 4)), (12, (.int .i64 ((4 : Nat) : Int))), (13, (.int .i64 ((3 : Nat) : Int))), (14, (.bool (decide (3 < 4))))] (sc rfl (sc rfl (sc rfl (sc rfl (sc rfl (sc rfl sn)))))) ?_
 refine T_he [0, 1, 2, 3] [.blk g3 113 ((setand (setand (setand (List.take 16 key) 3 15#8) 7 15#8) 11 15#8).map b8), .blk g4 3 [(.int .i64 ((3 : Nat) : Int)), (.int .i64 ((7 : Nat) : Int)), (.int .i64 ((11 : Nat) : Int)), (.int .i64 ((15 : Nat) : Int))], .blk g2 113 ((List.replicate 16 0#8).map b8), .blk g1 50 (key.map b8)] ⟨by decide, rfl⟩ ?_
 refine T_seq ?_
 refine T_cond_t rfl ?_
 refine T_skip ?_
 refine T_seq ?_
 refine T_block ?_
 refine Tsr hF rfl ?_
 refine lo rfl (pr_ixb (j := 3) (m' := 3) sd (by omega) Try.underlying150 (z := 1) kr rfl rfl rfl) rfl rfl ?_
 refine lq rfl (ld_blk 1 rfl rfl Try.underlying3 rfl rfl rfl) rfl rfl ?_
 refine la rfl rfl rfl rfl rfl ?_
 refine L_nil ?_
 refine T_reg hF rfl ?_
 refine lm rfl rfl rfl rfl rfl ?_
 refine lo rfl (pr_ixa (j := 15) (m' := 15) sd (by omega) Try.underlying113 (z := 1) kr rfl rfl rfl) rfl rfl ?_
 refine lq rfl (ld_blk 0 rfl (get8 sd) Try.underlying5 rfl rfl rfl) rfl rfl ?_
 refine lo rfl (pr_and (ib_and8 _ (15#8)) rfl rfl rfl) rfl rfl ?_
 refine lo rfl (pr_ixa (j := 15) (m' := 15) sd (by omega) Try.underlying113 (z := 1) kr rfl rfl rfl) rfl rfl ?_
 refine L_op rfl (op_store (vs := [(b8 ((ath (setand (setand (setand (List.take 16 key) 3 15#8) 7 15#8) 11 15#8) 15) &&& 15#8))]) (cs' := ((List.set (setand (setand (setand (List.take 16 key) 3 15#8) 7 15#8) 11 15#8) 15 ((ath (setand (setand (setand (List.take 16 key) 3 15#8) 7 15#8) 11 15#8) 15) &&& 15#8)).map b8)) 0 rfl rfl kr (one_one rfl) (stl sd) (splice_map (f := b8) sd) rfl rfl rfl rfl ?_)
 refine L_nil ?_
 refine T_reg hF rfl ?_
 refine lo rfl (pr_add (na_i64 (a := 3) (b := 1) sd) rfl rfl rfl) rfl rfl ?_
 refine lm rfl rfl rfl rfl rfl ?_
 refine L_nil ?_
 refine T_round ?_
 refine T_as 0 _ (.blk g3 113 ((setand (setand (setand (setand (List.take 16 key) 3 15#8) 7 15#8) 11 15#8) 15 15#8).map b8)) rfl (by rw [setand_def]) ?_
 have hse5 : ((setand (setand (setand (setand (List.take 16 key) 3 15#8) 7 15#8) 11 15#8) 15 15#8)).length = 16 := by simp only [setand_len]; omega
 refine Tsr hF rfl ?_
 refine lo rfl (pr_cmp (bo := .lss) (nc_lt (a := 4) (b := 4)) rfl rfl rfl rfl) rfl rfl ?_
 refine L_nil ?_
 refine T_seq ?_
 refine T_cond_f rfl ?_
 refine T_exit rfl ?_
 refine T_seq ?_
 refine Tsr hF rfl ?_
 refine L_op rfl (op_bslice (e := 3) (zs := [(.int .i64 ((4 : Nat) : Int)), (.int .i64 ((8 : Nat) : Int)), (.int .i64 ((12 : Nat) : Int))]) (qs := [(0, (.int .i64 ((4 : Nat) : Int))), (1, (.int .i64 ((8 : Nat) : Int))), (2, (.int .i64 ((12 : Nat) : Int)))]) (fun _ => by kernel_rfl) rfl rfl rfl rfl (fun g5 => ?_))
 refine lo rfl (pr_len_sl Try.underlying150 rfl rfl) rfl rfl ?_
 refine lm rfl rfl rfl rfl rfl ?_
 refine L_nil ?_
 refine T_block ?_
 refine T_rounds 4 ?_
 refine T_round ?_
 refine Tsr hF rfl ?_
 refine lo rfl (pr_cmp (bo := .lss) (nc_lt (a := 0) (b := 3)) rfl rfl rfl rfl) rfl rfl ?_
 refine L_nil ?_
 refine T_seq ?_
 refine T_cond_t rfl ?_
 refine T_skip ?_
 refine T_seq ?_
 refine T_block ?_
 refine Tsr hF rfl ?_
 refine lo rfl (pr_ixb (j := 0) (m' := 0) sd (by omega) Try.underlying150 (z := 1) kr rfl rfl rfl) rfl rfl ?_
 refine lq rfl (ld_blk 0 rfl rfl Try.underlying3 rfl rfl rfl) rfl rfl ?_
 refine la rfl rfl rfl rfl rfl ?_
 refine L_nil ?_
 refine T_reg hF rfl ?_
 refine lm rfl rfl rfl rfl rfl ?_
 refine lo rfl (pr_ixa (j := 4) (m' := 4) sd (by omega) Try.underlying113 (z := 1) kr rfl rfl rfl) rfl rfl ?_
 refine lq rfl (ld_blk 1 rfl (get8 sd) Try.underlying5 rfl rfl rfl) rfl rfl ?_
 refine lo rfl (pr_and (ib_and8 _ (252#8)) rfl rfl rfl) rfl rfl ?_
 refine lo rfl (pr_ixa (j := 4) (m' := 4) sd (by omega) Try.underlying113 (z := 1) kr rfl rfl rfl) rfl rfl ?_
 refine L_op rfl (op_store (vs := [(b8 ((ath (setand (setand (setand (setand (List.take 16 key) 3 15#8) 7 15#8) 11 15#8) 15 15#8) 4) &&& 252#8))]) (cs' := ((List.set (setand (setand (setand (setand (List.take 16 key) 3 15#8) 7 15#8) 11 15#8) 15 15#8) 4 ((ath (setand (setand (setand (setand (List.take 16 key) 3 15#8) 7 15#8) 11 15#8) 15 15#8) 4) &&& 252#8)).map b8)) 1 rfl rfl kr (one_one rfl) (stl sd) (splice_map (f := b8) sd) rfl rfl rfl rfl ?_)
 refine L_nil ?_
 refine T_reg hF rfl ?_
 refine lo rfl (pr_add (na_i64 (a := 0) (b := 1) sd) rfl rfl rfl) rfl rfl ?_
 refine lm rfl rfl rfl rfl rfl ?_
 refine L_nil ?_
 refine T_round ?_
 refine T_as 0 _ (.blk g3 113 ((setand (setand (setand (setand (setand (List.take 16 key) 3 15#8) 7 15#8) 11 15#8) 15 15#8) 4 252#8).map b8)) rfl (by rw [setand_def]) ?_
 have hse6 : ((setand (setand (setand (setand (setand (List.take 16 key) 3 15#8) 7 15#8) 11 15#8) 15 15#8) 4 252#8)).length = 16 := by simp only [setand_len]; omega
 refine Tsr hF rfl ?_
 refine lo rfl (pr_cmp (bo := .lss) (nc_lt (a := 1) (b := 3)) rfl rfl rfl rfl) rfl rfl ?_
 refine L_nil ?_
 refine T_seq ?_
 refine T_cond_t rfl ?_
 refine T_skip ?_
 refine T_seq ?_
 refine T_block ?_
 refine Tsr hF rfl ?_
 refine lo rfl (pr_ixb (j := 1) (m' := 1) sd (by omega) Try.underlying150 (z := 1) kr rfl rfl rfl) rfl rfl ?_
 refine lq rfl (ld_blk 1 rfl rfl Try.underlying3 rfl rfl rfl) rfl rfl ?_
 refine la rfl rfl rfl rfl rfl ?_
 refine L_nil ?_
 refine T_reg hF rfl ?_
 refine lm rfl rfl rfl rfl rfl ?_
 refine lo rfl (pr_ixa (j := 8) (m' := 8) sd (by omega) Try.underlying113 (z := 1) kr rfl rfl rfl) rfl rfl ?_
 refine lq rfl (ld_blk 0 rfl (get8 sd) Try.underlying5 rfl rfl rfl) rfl rfl ?_
 refine lo rfl (pr_and (ib_and8 _ (252#8)) rfl rfl rfl) rfl rfl ?_
 refine lo rfl (pr_ixa (j := 8) (m' := 8) sd (by omega) Try.underlying113 (z := 1) kr rfl rfl rfl) rfl rfl ?_
 refine L_op rfl (op_store (vs := [(b8 ((ath (setand (setand (setand (setand (setand (List.take 16 key) 3 15#8) 7 15#8) 11 15#8) 15 15#8) 4 252#8) 8) &&& 252#8))]) (cs' := ((List.set (setand (setand (setand (setand (setand (List.take 16 key) 3 15#8) 7 15#8) 11 15#8) 15 15#8) 4 252#8) 8 ((ath (setand (setand (setand (setand (setand (List.take 16 key) 3 15#8) 7 15#8) 11 15#8) 15 15#8) 4 252#8) 8) &&& 252#8)).map b8)) 0 rfl rfl kr (one_one rfl) (stl sd) (splice_map (f := b8) sd) rfl rfl rfl rfl ?_)
 refine L_nil ?_
 refine T_reg hF rfl ?_
 refine lo rfl (pr_add (na_i64 (a := 1) (b := 1) sd) rfl rfl rfl) rfl rfl ?_
 refine lm rfl rfl rfl rfl rfl ?_
 refine L_nil ?_
 refine T_round ?_
 refine T_as 0 _ (.blk g3 113 ((setand (setand (setand (setand (setand (setand (List.take 16 key) 3 15#8) 7 15#8) 11 15#8) 15 15#8) 4 252#8) 8 252#8).map b8)) rfl (by rw [setand_def]) ?_
 have hse7 : ((setand (setand (setand (setand (setand (setand (List.take 16 key) 3 15#8) 7 15#8) 11 15#8) 15 15#8) 4 252#8) 8 252#8)).length = 16 := by simp only [setand_len]; omega
 refine Tsr hF rfl ?_
 refine lo rfl (pr_cmp (bo := .lss) (nc_lt (a := 2) (b := 3)) rfl rfl rfl rfl) rfl rfl ?_
 refine L_nil ?_
 refine T_seq ?_
 refine T_cond_t rfl ?_
 refine T_skip ?_
 refine T_seq ?_
 refine T_block ?_
 refine Tsr hF rfl ?_
 refine lo rfl (pr_ixb (j := 2) (m' := 2) sd (by omega) Try.underlying150 (z := 1) kr rfl rfl rfl) rfl rfl ?_
 refine lq rfl (ld_blk 1 rfl rfl Try.underlying3 rfl rfl rfl) rfl rfl ?_
 refine la rfl rfl rfl rfl rfl ?_
 refine L_nil ?_
 refine T_reg hF rfl ?_
 refine lm rfl rfl rfl rfl rfl ?_
 refine lo rfl (pr_ixa (j := 12) (m' := 12) sd (by omega) Try.underlying113 (z := 1) kr rfl rfl rfl) rfl rfl ?_
 refine lq rfl (ld_blk 0 rfl (get8 sd) Try.underlying5 rfl rfl rfl) rfl rfl ?_
 refine lo rfl (pr_and (ib_and8 _ (252#8)) rfl rfl rfl) rfl rfl ?_
 refine lo rfl (pr_ixa (j := 12) (m' := 12) sd (by omega) Try.underlying113 (z := 1) kr rfl rfl rfl) rfl rfl ?_
 refine L_op rfl (op_store (vs := [(b8 ((ath (setand (setand (setand (setand (setand (setand (List.take 16 key) 3 15#8) 7 15#8) 11 15#8) 15 15#8) 4 252#8) 8 252#8) 12) &&& 252#8))]) (cs' := ((List.set (setand (setand (setand (setand (setand (setand (List.take 16 key) 3 15#8) 7 15#8) 11 15#8) 15 15#8) 4 252#8) 8 252#8) 12 ((ath (setand (setand (setand (setand (setand (setand (List.take 16 key) 3 15#8) 7 15#8) 11 15#8) 15 15#8) 4 252#8) 8 252#8) 12) &&& 252#8)).map b8)) 0 rfl rfl kr (one_one rfl) (stl sd) (splice_map (f := b8) sd) rfl rfl rfl rfl ?_)
 refine L_nil ?_
 refine T_re [(2, (.pointer (some ⟨g2, 0, none⟩))), (3, (.pointer (some ⟨g3, 0, none⟩))), (23, (.slice (some ⟨g5, 0, none⟩) 3 3)), (24, (.int .i64 ((3 : Nat) : Int))), (25, (.int .i64 ((2 : Nat) : Int)))] (sc rfl (sc rfl (sc rfl (sc rfl (sc rfl sn))))) ?_
 refine T_he [0, 1, 2, 3, 4] [.blk g3 113 ((List.set (setand (setand (setand (setand (setand (setand (List.take 16 key) 3 15#8) 7 15#8) 11 15#8) 15 15#8) 4 252#8) 8 252#8) 12 ((ath (setand (setand (setand (setand (setand (setand (List.take 16 key) 3 15#8) 7 15#8) 11 15#8) 15 15#8) 4 252#8) 8 252#8) 12) &&& 252#8)).map b8), .blk g5 3 [(.int .i64 ((4 : Nat) : Int)), (.int .i64 ((8 : Nat) : Int)), (.int .i64 ((12 : Nat) : Int))], .blk g4 3 [(.int .i64 ((3 : Nat) : Int)), (.int .i64 ((7 : Nat) : Int)), (.int .i64 ((11 : Nat) : Int)), (.int .i64 ((15 : Nat) : Int))], .blk g2 113 ((List.replicate 16 0#8).map b8), .blk g1 50 (key.map b8)] ⟨by decide, rfl⟩ ?_
 refine T_reg hF rfl ?_
 refine lo rfl (pr_add (na_i64 (a := 2) (b := 1) sd) rfl rfl rfl) rfl rfl ?_
 refine lm rfl rfl rfl rfl rfl ?_
 refine L_nil ?_
 refine T_round ?_
 refine T_as 0 _ (.blk g3 113 ((setand (setand (setand (setand (setand (setand (setand (List.take 16 key) 3 15#8) 7 15#8) 11 15#8) 15 15#8) 4 252#8) 8 252#8) 12 252#8).map b8)) rfl (by rw [setand_def]) ?_
 have hse8 : ((setand (setand (setand (setand (setand (setand (setand (List.take 16 key) 3 15#8) 7 15#8) 11 15#8) 15 15#8) 4 252#8) 8 252#8) 12 252#8)).length = 16 := by simp only [setand_len]; omega
 refine Tsr hF rfl ?_
 refine lo rfl (pr_cmp (bo := .lss) (nc_lt (a := 3) (b := 3)) rfl rfl rfl rfl) rfl rfl ?_
 refine L_nil ?_
 refine T_seq ?_
 refine T_cond_f rfl ?_
 refine T_exit rfl ?_
 refine Tsr hF rfl ?_
 refine lq rfl (ld_agg (ds := ((setand (setand (setand (setand (setand (setand (setand (List.take 16 key) 3 15#8) 7 15#8) 11 15#8) 15 15#8) 4 252#8) 8 252#8) 12 252#8).map b8)) 0 rfl agg_all Try.underlying113 rfl (fwz (n := 16) kr sd) rfl rfl) rfl rfl ?_
 refine L_op rfl (op_sto (n := 16) (vs := ((setand (setand (setand (setand (setand (setand (setand (List.take 16 key) 3 15#8) 7 15#8) 11 15#8) 15 15#8) 4 252#8) 8 252#8) 12 252#8).map b8)) 3 rfl rfl kr (all8_one _) kr sd rfl rfl rfl rfl ?_)
 refine L_nil ?_
 refine T_ret ?_
 refine T_as 0 _ (.blk g2 113 ((clampb key).map b8)) rfl (by rw [clamp_hand key hkl]) ?_
 exact T_fin () (by first | trivial | omega | (simp; done)) (resb 0 rfl rfl rfl Try.underlying113 rfl (fwz (n := 16) kr sd)) [] ⟨by decide, rfl⟩ rfl
end Go.Proofs.Ytlplpmkdebemnaa
namespace Go.Proofs.Ytlplpmkdebemnaa
set_option linter.unusedVariables false
set_option linter.unusedSimpArgs false
set_option linter.unnecessarySimpa false
set_option maxRecDepth 100000
open Go.RowKit Bv Fw

theorem piece_full (b : List (BitVec 8)) (h : b.length = 16) : v3 (low b 8) (low (List.drop 8 b) 8) 1#64 = pv b ∧ (1#64).toNat ≤ 1 := by
  refine ⟨?_, by decide⟩
  have h1 := vw_take16 b 16 (by omega)
  rw [List.take_of_length_le (by omega)] at h1
  unfold pv
  rw [v3_def, h, h1]
  have : (1#64).toNat = 1 := rfl
  rw [this]
theorem piece_short (b : List (BitVec 8)) (n : Nat) (h : b.length = n) (hn : n < 16) : v3 (low (List.set (cop (List.replicate 16 0#8) 0 b (min n 16)) (min n 16) 1#8) 8) (low (List.take 8 (List.drop 8 (List.set (cop (List.replicate 16 0#8) 0 b (min n 16)) (min n 16) 1#8))) 8) 0#64 = pv b ∧ (0#64).toNat ≤ 1 := by
  refine ⟨?_, by decide⟩
  have hm : min n 16 = n := by omega
  have e : List.set (cop (List.replicate 16 0#8) 0 b (min n 16)) (min n 16) 1#8 = b ++ ([1#8] ++ List.replicate (15 - n) 0#8) := by
    rw [hm]
    have e1 : cop (List.replicate 16 0#8) 0 b n = b ++ List.replicate (16 - n) 0#8 := by
      unfold cop
      rw [List.take_of_length_le (l := b) (by omega), List.drop_replicate]
      simp only [List.take_zero, List.nil_append, Nat.zero_add, h]
    rw [e1, List.set_append_right _ _ (by omega), h, Nat.sub_self, show 16 - n = (15 - n) + 1 by omega, List.replicate_succ, List.set_cons_zero]
    rfl
  have hl : (b ++ ([1#8] ++ List.replicate (15 - n) 0#8)).length = 16 := by simp; omega
  rw [e]
  have h1 := vw_take16 _ 16 (show 16 ≤ (b ++ ([1#8] ++ List.replicate (15 - n) 0#8)).length by omega)
  rw [List.take_of_length_le (by omega)] at h1
  have h2 : low (List.take 8 (List.drop 8 (b ++ ([1#8] ++ List.replicate (15 - n) 0#8)))) 8 = low (List.drop 8 (b ++ ([1#8] ++ List.replicate (15 - n) 0#8))) 8 := by
    rw [List.take_of_length_le (by rw [List.length_drop]; omega)]
  rw [h2, v3_def]
  have h3 : (0#64).toNat = 0 := rfl
  rw [h3]
  unfold pv
  have h4 : vw (b ++ ([1#8] ++ List.replicate (15 - n) 0#8)) = vw b + 256 ^ b.length := by
    have h5 : vw (List.replicate (15 - n) 0#8) = 0 := vw_rep0 _
    rw [vw_app, vw_app, h5, vw_cons, vw_nil]; simp
  rw [h4] at h1
  omega

set_option maxHeartbeats 4000000 in
theorem piece_f (b : List (BitVec 8)) (A : Option Addr) (n : Nat) (c : Nat) (w : World) (hO : HOK [.rd A 1 n c (b.map b8)] w) (hx : b.length = n) (hn : n ≤ 16) : Calls Try.prog 93 [(.slice A n c)].toArray w (Ret (T := BitVec 64 × BitVec 64 × BitVec 64) [] w (fun ⟨x, y, z⟩ => v3 x y z = pv b ∧ z.toNat ≤ 1) (fun ⟨x, y, z⟩ => (.tuple [(b64 x), (b64 y), (b64 z)].toArray)) (fun ⟨x, y, z⟩ => [])) := by
 have hcop : (cop (List.replicate 16 0#8) 0 b (min n 16)).length = 16 := by unfold cop; simp; omega
 have hcop2 : (List.set (cop (List.replicate 16 0#8) 0 b (min n 16)) (min n 16) (1#8)).length = 16 := by rw [List.length_set]; exact hcop
 have hcop3 : (List.take 8 (List.drop 8 (List.set (cop (List.replicate 16 0#8) 0 b (min n 16)) (min n 16) (1#8)))).length = 8 := by rw [List.length_take, List.length_drop, hcop2]; rfl
 have hF : Wid Fence.wide := wid_wide
 refine enter (c := _) Try.func93 rfl [] _ [.rd A 1 n c (b.map b8)] (by rw [Try.ntmps93]; rfl) (own_rds hO rfl) ?_
 rw [Try.ntmps93]
 refine T_re [(0, (.slice A n c))] (sc rfl sn) ?_
 refine T_he [0] [.rd A 1 n c (b.map b8)] ⟨by decide, rfl⟩ ?_
 refine Tsr hF rfl ?_
 refine la rfl rfl rfl rfl rfl ?_
 refine la rfl rfl rfl rfl rfl ?_
 refine la rfl rfl rfl rfl rfl ?_
 refine L_nil ?_
 refine T_seq ?_
 refine Tsr hF rfl ?_
 refine lm rfl rfl rfl rfl rfl ?_
 refine lo rfl (pr_len_sl Try.underlying23 rfl rfl) rfl rfl ?_
 refine lo rfl (pr_cmp (bo := .eql) (nc_eq (a := n) (b := 16)) rfl rfl rfl rfl) rfl rfl ?_
 refine L_nil ?_
 refine T_cond (n == 16) rfl (fun hc_1 => ?_) (fun hc_1 => ?_)
 ·
  have hc_1 : n = 16 := by simpa using hc_1
  refine T_seq ?_
  refine T_regD [.rd A 1 n c (b.map b8)] 8 8 #[false, false, false, false, false, false, false, false] hF kr kr ?_
  refine D_pure (i := 0) [0] rfl kr rfl (pr_move rfl rfl) (.inr rfl) rfl rfl ?_
  refine D_pure (i := 2) [0] rfl kr rfl (pr_move rfl rfl) (.inr rfl) rfl rfl ?_
  refine D_join (T := Unit) (fun _ => True) (fun _ => [(2, (b64 (low b 8))), (3, (b64 (low (List.drop 8 b) 8))), (4, (b64 (1#64)))]) (fun _ => [.rd A 1 n c (b.map b8)]) ?_ ?_
  ·
   refine D_all [1, 3] kr (by simp) ⟨⟨_, rfl, rfl, ?_⟩, ⟨_, rfl, rfl, ?_⟩, trivial⟩
   ·
    refine id (op_cn (fun w hw => low_f b 8 A n c w (hok_cons ((src_rd 0 rfl) w hw) (hok_nil w)) sd sd sd) (enters_of Try.func61 kr rfl) rfl rfl rfl rfl rfl (fun t7 q8 => ?_))
    refine D_on [0] rfl ?_
    refine D_one 3 _ rfl kr rfl (op_slice_rd (l := 8) (u := n) 0 rfl sd sd Try.underlying23 kr rfl rfl ⟨_, rfl⟩ rfl rfl rfl (fun B9 => ?_))
    refine T_as 0 _ (.rd B9 1 (n - 8) (c - 8) ((List.drop 8 b).map b8)) rfl (by congr 1; first | rfl | (rw [List.take_of_length_le (by simp; omega)]; simp)) ?_
    refine D_on [1] rfl ?_
    refine D_one 4 _ rfl kr rfl (op_cn (fun w hw => low_f (List.drop 8 b) 8 B9 (n - 8) (c - 8) w (hok_cons ((src_rd 0 rfl) w hw) (hok_nil w)) sd sd sd) (enters_of Try.func61 kr rfl) rfl rfl rfl rfl rfl (fun t10 q11 => ?_))
    refine D_on [1] rfl ?_
    refine D_pure (i := 5) [1] rfl kr rfl (pr_assign rfl rfl) (.inr rfl) rfl rfl ?_
    refine D_pure (i := 6) [1] rfl kr rfl (pr_assign rfl rfl) (.inr rfl) rfl rfl ?_
    refine D_pure (i := 7) [1] rfl kr rfl (pr_assign rfl rfl) (.inr rfl) rfl rfl ?_
    refine D_done kr ?_
    exact T_meet () trivial (sc rfl (sc rfl (sc rfl sn))) [1] ⟨by decide, rfl⟩
   ·
    refine id (op_slice_rd (l := 8) (u := n) 0 rfl sd sd Try.underlying23 kr rfl rfl ⟨_, rfl⟩ rfl rfl rfl (fun B12 => ?_))
    refine T_as 0 _ (.rd B12 1 (n - 8) (c - 8) ((List.drop 8 b).map b8)) rfl (by congr 1; first | rfl | (rw [List.take_of_length_le (by simp; omega)]; simp)) ?_
    refine D_on [1] rfl ?_
    refine D_one 1 _ rfl kr rfl (op_cn (fun w hw => low_f b 8 A n c w (hok_cons ((src_rd 1 rfl) w hw) (hok_nil w)) sd sd sd) (enters_of Try.func61 kr rfl) rfl rfl rfl rfl rfl (fun t13 q14 => ?_))
    refine D_on [1] rfl ?_
    refine D_one 4 _ rfl kr rfl (op_cn (fun w hw => low_f (List.drop 8 b) 8 B12 (n - 8) (c - 8) w (hok_cons ((src_rd 0 rfl) w hw) (hok_nil w)) sd sd sd) (enters_of Try.func61 kr rfl) rfl rfl rfl rfl rfl (fun t15 q16 => ?_))
    refine D_on [1] rfl ?_
    refine D_pure (i := 5) [1] rfl kr rfl (pr_assign rfl rfl) (.inr rfl) rfl rfl ?_
    refine D_pure (i := 6) [1] rfl kr rfl (pr_assign rfl rfl) (.inr rfl) rfl rfl ?_
    refine D_pure (i := 7) [1] rfl kr rfl (pr_assign rfl rfl) (.inr rfl) rfl rfl ?_
    refine D_done kr ?_
    exact T_meet () trivial (sc rfl (sc rfl (sc rfl sn))) [1] ⟨by decide, rfl⟩
  ·
   rintro ⟨⟩ -
   refine T_re [(2, (b64 (low b 8))), (3, (b64 (low (List.drop 8 b) 8))), (4, (b64 (1#64)))] (sc rfl (sc rfl (sc rfl sn))) ?_
   refine T_he [0] [.rd A 1 n c (b.map b8)] ⟨by decide, rfl⟩ ?_
   refine T_ret ?_
   exact T_fin ((low b 8), (low (List.drop 8 b) 8), 1#64) (by first | exact piece_full b (by omega) | exact piece_short b n hx (by omega)) (res3 rfl rfl rfl rfl) [] ⟨by decide, rfl⟩ rfl
 ·
  have hc_1 : ¬ n = 16 := by simpa using hc_1
  refine T_skip ?_
  refine Tsr hF rfl ?_
  refine L_op rfl (op_alloc (z := .agg ((List.replicate 16 0#8).map b8).toArray) (zs := ((List.replicate 16 0#8).map b8)) kr rfl rfl rfl rfl (fun g17 => ?_))
  refine L_nil ?_
  refine Tsr hF rfl ?_
  refine lo rfl (pr_sla (l := 0) (u := 16) (m := 0) sd sd sd rfl Try.underlying113 (z := 1) kr rfl rfl rfl rfl) rfl rfl ?_
  refine lm rfl rfl rfl rfl rfl ?_
  refine L_op rfl (op_copy (cs' := ((cop (List.replicate 16 0#8) 0 b (min n 16)).map b8)) 0 rfl Try.underlying23 kr (src_rd 1 rfl) (all8_one _) sd (cop_map _ _ _ _) rfl rfl rfl rfl rfl ?_)
  refine lo rfl (pr_ixa (j := min n 16) (m' := min n 16) sd (by omega) Try.underlying113 (z := 1) kr rfl rfl rfl) rfl rfl ?_
  refine L_op rfl (op_store (vs := [(b8 (1#8))]) (cs' := ((List.set (cop (List.replicate 16 0#8) 0 b (min n 16)) (min n 16) (1#8)).map b8)) 0 rfl rfl kr (one_one rfl) (stl sd) (splice_map (f := b8) sd) rfl rfl rfl rfl ?_)
  refine L_nil ?_
  refine T_seq ?_
  refine T_regD [.blk g17 113 ((List.set (cop (List.replicate 16 0#8) 0 b (min n 16)) (min n 16) (1#8)).map b8), .rd A 1 n c (b.map b8)] 7 7 #[false, false, false, false, false, false, false] hF kr kr ?_
  refine D_pure (i := 0) [0, 1] rfl kr rfl (pr_sla (l := 0) (u := 16) (m := 0) sd sd sd rfl Try.underlying113 (z := 1) kr rfl rfl rfl rfl) (.inr rfl) rfl rfl ?_
  refine D_pure (i := 2) [0, 1] rfl kr rfl (pr_sla (l := 8) (u := 16) (m := 8) sd sd sd rfl Try.underlying113 (z := 1) kr rfl rfl ⟨_, rfl⟩ rfl) (.inr rfl) rfl rfl ?_
  refine D_one 1 _ rfl kr rfl (op_cn (fun w hw => low_f (List.set (cop (List.replicate 16 0#8) 0 b (min n 16)) (min n 16) (1#8)) 8 (some ⟨g17, 0, none⟩) 16 16 w (hok_cons ((src_full (z := 1) 0 rfl sd sd sd) w hw) (hok_nil w)) sd sd sd) (enters_of Try.func61 kr rfl) rfl rfl rfl rfl rfl (fun t18 q19 => ?_))
  refine D_on [0, 1] rfl ?_
  refine D_one 3 _ rfl kr rfl (op_cn (fun w hw => low_f (List.take 8 (List.drop 8 (List.set (cop (List.replicate 16 0#8) 0 b (min n 16)) (min n 16) (1#8)))) 8 (some ⟨g17, 8, none⟩) 8 8 w (hok_cons ((src_sub 0 rfl sd sd sd) w hw) (hok_nil w)) sd sd sd) (enters_of Try.func61 kr rfl) rfl rfl rfl rfl rfl (fun t20 q21 => ?_))
  refine D_on [0, 1] rfl ?_
  refine D_pure (i := 4) [0, 1] rfl kr rfl (pr_assign rfl rfl) (.inr rfl) rfl rfl ?_
  refine D_pure (i := 5) [0, 1] rfl kr rfl (pr_assign rfl rfl) (.inr rfl) rfl rfl ?_
  refine D_pure (i := 6) [0, 1] rfl kr rfl (pr_assign rfl rfl) (.inr rfl) rfl rfl ?_
  refine D_done kr ?_
  refine T_ret ?_
  exact T_fin ((low (List.set (cop (List.replicate 16 0#8) 0 b (min n 16)) (min n 16) (1#8)) 8), (low (List.take 8 (List.drop 8 (List.set (cop (List.replicate 16 0#8) 0 b (min n 16)) (min n 16) (1#8)))) 8), 0#64) (by first | exact piece_full b (by omega) | exact piece_short b n hx (by omega)) (res3 rfl rfl rfl rfl) [] ⟨by decide, rfl⟩ rfl
theorem times_bits {a0 a1 a2 r0 r1 p0 p1 p1' p2' p2'' p3' k00 k01 k10 k11 k20 k21 : BitVec 64}
    (m00 : 18446744073709551616 * k00.toNat + p0.toNat = a0.toNat * r0.toNat + (0#64).toNat + (0#64).toNat) (m01 : 18446744073709551616 * k01.toNat + p1.toNat = a0.toNat * r1.toNat + k00.toNat + (0#64).toNat)
    (m10 : 18446744073709551616 * k10.toNat + p1'.toNat = a1.toNat * r0.toNat + (0#64).toNat + p1.toNat) (m11 : 18446744073709551616 * k11.toNat + p2'.toNat = a1.toNat * r1.toNat + k10.toNat + (0#64 + k01).toNat)
    (m20 : 18446744073709551616 * k20.toNat + p2''.toNat = a2.toNat * r0.toNat + (0#64).toNat + p2'.toNat) (m21 : 18446744073709551616 * k21.toNat + p3'.toNat = a2.toNat * r1.toNat + k20.toNat + (0#64 + k11).toNat) :
    p0.toNat + 18446744073709551616 * p1'.toNat + 340282366920938463463374607431768211456 * p2''.toNat + 6277101735386680763835789423207666416102355444464034512896 * p3'.toNat + 115792089237316195423570985008687907853269984665640564039457584007913129639936 * (0#64 + k21).toNat = v3 a0 a1 a2 * (r0.toNat + 18446744073709551616 * r1.toNat) := by
  have e0 : (0#64).toNat = 0 := rfl
  rw [BitVec.zero_add] at *
  rw [e0] at m00 m01 m10 m20
  rw [v3_def]
  exact rows_law m00 m01 rfl m10 m11 rfl m20 m21 rfl
theorem times_top {b0 b1 b2 p0 p1 p2 p3 p4 : BitVec 64} (h : v3 b0 b1 b2 = v3 p0 p1 (p2 &&& 3#64) + v3 (p2 &&& ~~~3#64) p3 p4) (h4 : p4.toNat = 0) : b2.toNat < 64 := by
  simp only [v3_def, and3, andnot3, h4] at h
  have h0 := p0.isLt
  have h1 := p1.isLt
  have h2 := p2.isLt
  have h3 := p3.isLt
  omega
theorem top_zero {p0 p1 p2 p3 p4 : BitVec 64} {A R : Nat} (hQ : p0.toNat + 18446744073709551616 * p1.toNat + 340282366920938463463374607431768211456 * p2.toNat + 6277101735386680763835789423207666416102355444464034512896 * p3.toNat + 115792089237316195423570985008687907853269984665640564039457584007913129639936 * p4.toNat = A * R)
    (hb : A * R < 2722258935367507707706996859454145691648 * 21267647932558653966460912964485513216) : p4.toNat = 0 := by omega
theorem side_a (x : BitVec 64) {p4 : BitVec 64} (h4 : p4.toNat = 0) : (x &&& 3#64).toNat + p4.toNat + 1 < 18446744073709551616 := by rw [and3, h4]; omega
theorem side_b {b0 b1 b2 p0 p1 p2 p3 p4 : BitVec 64} (h : v3 b0 b1 b2 = v3 p0 p1 (p2 &&& 3#64) + v3 (p2 &&& ~~~3#64) p3 p4) (h4 : p4.toNat = 0) : b2.toNat + (p4 >>> 2).toNat + 1 < 18446744073709551616 := by
  have h1 := times_top h h4
  rw [shr2, h4]; omega
theorem times_fin {p0 p1 p2 p3 p4 b0 b1 b2 c0 c1 c2 : BitVec 64} {A R : Nat} (hQ : p0.toNat + 18446744073709551616 * p1.toNat + 340282366920938463463374607431768211456 * p2.toNat + 6277101735386680763835789423207666416102355444464034512896 * p3.toNat + 115792089237316195423570985008687907853269984665640564039457584007913129639936 * p4.toNat = A * R)
    (hb : A * R < 2722258935367507707706996859454145691648 * 21267647932558653966460912964485513216) (h1 : v3 b0 b1 b2 = v3 p0 p1 (p2 &&& 3#64) + v3 (p2 &&& ~~~3#64) p3 p4) (h2 : v3 c0 c1 c2 = v3 b0 b1 b2 + v3 (((p2 &&& ~~~3#64) >>> 2) ||| (p3 <<< 62)) ((p3 >>> 2) ||| (p4 <<< 62)) (p4 >>> 2)) :
    v3 c0 c1 c2 % polyP = A * R % polyP ∧ v3 c0 c1 c2 < 1573805947009340393518107559371927977984 := by
  obtain ⟨h3, h4⟩ := fold_law hQ (h2.trans (by rw [h1]))
  refine ⟨h3, ?_⟩
  omega

set_option maxHeartbeats 4000000 in
theorem times_f (a0 : BitVec 64) (a1 : BitVec 64) (a2 : BitVec 64) (r0 : BitVec 64) (r1 : BitVec 64) (w : World) (hO : HOK [] w) (ha : v3 a0 a1 a2 < 2722258935367507707706996859454145691648) (hr : (r0.toNat + 18446744073709551616 * r1.toNat) < 21267647932558653966460912964485513216) : Calls Try.prog 94 [(.agg [(b64 a0), (b64 a1), (b64 a2)].toArray), (.agg [(b64 r0), (b64 r1)].toArray)].toArray w (Ret (T := BitVec 64 × BitVec 64 × BitVec 64) [] w (fun ⟨b0, b1, b2⟩ => v3 b0 b1 b2 % polyP = v3 a0 a1 a2 * (r0.toNat + 18446744073709551616 * r1.toNat) % polyP ∧ v3 b0 b1 b2 < 1573805947009340393518107559371927977984) (fun ⟨b0, b1, b2⟩ => (.agg [(b64 b0), (b64 b1), (b64 b2)].toArray)) (fun ⟨b0, b1, b2⟩ => [])) := by
 have hF : Wid Fence.wide := wid_wide
 refine enter (c := _) Try.func94 rfl [] _ [] (by rw [Try.ntmps94]; rfl) (own_rds hO rfl) ?_
 rw [Try.ntmps94]
 refine T_re [(0, (.agg [(b64 a0), (b64 a1), (b64 a2)].toArray)), (1, (.agg [(b64 r0), (b64 r1)].toArray))] (sc rfl (sc rfl sn)) ?_
 refine T_he [] [] ⟨by decide, rfl⟩ ?_
 refine Tsr hF rfl ?_
 refine L_op rfl (op_box (zs := [(b64 a0), (b64 a1), (b64 a2)]) rfl rfl rfl rfl rfl (fun g1 => ?_))
 refine L_op rfl (op_box (zs := [(b64 r0), (b64 r1)]) rfl rfl rfl rfl rfl (fun g2 => ?_))
 refine L_op rfl (op_alloc (z := .agg [(b64 (0#64)), (b64 (0#64)), (b64 (0#64))].toArray) (zs := [(b64 (0#64)), (b64 (0#64)), (b64 (0#64))]) kr rfl rfl rfl rfl (fun g3 => ?_))
 refine L_nil ?_
 refine T_scope rfl ?_
 refine Tsr hF rfl ?_
 refine L_op rfl (op_alloc (z := .agg [(b64 (0#64)), (b64 (0#64)), (b64 (0#64)), (b64 (0#64)), (b64 (0#64))].toArray) (zs := [(b64 (0#64)), (b64 (0#64)), (b64 (0#64)), (b64 (0#64)), (b64 (0#64))]) kr rfl rfl rfl rfl (fun g4 => ?_))
 refine L_nil ?_
 refine T_seq ?_
 refine T_label ?_
 refine T_seq ?_
 refine Tsr hF rfl ?_
 refine lq rfl (ld_agg (ds := [(b64 a0), (b64 a1), (b64 a2)]) 3 rfl agg_all Try.underlying141 rfl kr rfl rfl) rfl rfl ?_
 refine lm rfl rfl rfl rfl rfl ?_
 refine L_nil ?_
 refine T_block ?_
 refine T_rounds 3 ?_
 refine T_round ?_
 refine Tsr hF rfl ?_
 refine lo rfl (pr_cmp (bo := .lss) (nc_lt (a := 0) (b := 3)) rfl rfl rfl rfl) rfl rfl ?_
 refine L_nil ?_
 refine T_seq ?_
 refine T_cond_t rfl ?_
 refine T_skip ?_
 refine T_seq ?_
 refine T_block ?_
 refine Tsr hF rfl ?_
 refine lm rfl rfl rfl rfl rfl ?_
 refine lo rfl (pr_ix (cs := [(b64 a0), (b64 a1), (b64 a2)]) (j := 0) sd rfl Try.underlying141 Try.underlying30 rfl kr rfl rfl rfl) rfl rfl ?_
 refine la rfl rfl rfl rfl rfl ?_
 refine la rfl rfl rfl rfl rfl ?_
 refine L_nil ?_
 refine Tsr hF rfl ?_
 refine la rfl rfl rfl rfl rfl ?_
 refine L_nil ?_
 refine T_seq ?_
 refine Tsr hF rfl ?_
 refine lq rfl (ld_agg (ds := [(b64 r0), (b64 r1)]) 2 rfl agg_all Try.underlying31 rfl kr rfl rfl) rfl rfl ?_
 refine lm rfl rfl rfl rfl rfl ?_
 refine L_nil ?_
 refine T_block ?_
 refine T_rounds 3 ?_
 refine T_round ?_
 refine Tsr hF rfl ?_
 refine lo rfl (pr_cmp (bo := .lss) (nc_lt (a := 0) (b := 2)) rfl rfl rfl rfl) rfl rfl ?_
 refine L_nil ?_
 refine T_seq ?_
 refine T_cond_t rfl ?_
 refine T_skip ?_
 refine T_seq ?_
 refine T_block ?_
 refine Tsr hF rfl ?_
 refine lm rfl rfl rfl rfl rfl ?_
 refine lo rfl (pr_ix (cs := [(b64 r0), (b64 r1)]) (j := 0) sd rfl Try.underlying31 Try.underlying30 rfl kr rfl rfl rfl) rfl rfl ?_
 refine la rfl rfl rfl rfl rfl ?_
 refine la rfl rfl rfl rfl rfl ?_
 refine L_nil ?_
 refine Tsr hF rfl ?_
 refine lm rfl rfl rfl rfl rfl ?_
 refine lm rfl rfl rfl rfl rfl ?_
 refine L_op rfl (op_cn (fun w hw => mul64_f a0 r0 w (hok_nil w) ) (enters_of Try.func101 kr rfl) rfl rfl rfl rfl rfl (fun t5 q6 => ?_))
 obtain ⟨h7, l8⟩ := t5
 have q6 : 18446744073709551616 * h7.toNat + l8.toNat = a0.toNat * r0.toNat := q6
 refine lm rfl rfl rfl rfl rfl ?_
 refine lo rfl (pr_ext (vs := [(b64 h7), (b64 l8)]) rfl rfl rfl) rfl rfl ?_
 refine lo rfl (pr_ext (vs := [(b64 h7), (b64 l8)]) rfl rfl rfl) rfl rfl ?_
 refine la rfl rfl rfl rfl rfl ?_
 refine la rfl rfl rfl rfl rfl ?_
 refine L_nil ?_
 refine Tsr hF rfl ?_
 refine la rfl rfl rfl rfl rfl ?_
 refine L_nil ?_
 refine Tsr hF rfl ?_
 refine lm rfl rfl rfl rfl rfl ?_
 refine lm rfl rfl rfl rfl rfl ?_
 obtain ⟨s9, d10, ha_11, hb_12, hv_13⟩ := add64_at l8 (0#64) (0#64) (by first | assumption | decide)
 refine lo rfl (pr_extern hv_13 rfl rfl rfl) rfl rfl ?_
 refine lm rfl rfl rfl rfl rfl ?_
 refine lo rfl (pr_ext (vs := [(b64 s9), (b64 d10)]) rfl rfl rfl) rfl rfl ?_
 refine lo rfl (pr_ext (vs := [(b64 s9), (b64 d10)]) rfl rfl rfl) rfl rfl ?_
 refine la rfl rfl rfl rfl rfl ?_
 refine la rfl rfl rfl rfl rfl ?_
 refine L_nil ?_
 refine Tsr hF rfl ?_
 refine lm rfl rfl rfl rfl rfl ?_
 refine lm rfl rfl rfl rfl rfl ?_
 refine lo rfl (pr_add (add64 _ _) rfl rfl rfl) rfl rfl ?_
 refine la rfl rfl rfl rfl rfl ?_
 refine L_nil ?_
 refine Tsr hF rfl ?_
 refine lm rfl rfl rfl rfl rfl ?_
 refine lm rfl rfl rfl rfl rfl ?_
 refine lo rfl (pr_add (na_i64 (a := 0) (b := 0) sd) rfl rfl rfl) rfl rfl ?_
 refine lm rfl rfl rfl rfl rfl ?_
 refine lm rfl rfl rfl rfl rfl ?_
 refine lo rfl (pr_add (na_i64 (a := 0) (b := 0) sd) rfl rfl rfl) rfl rfl ?_
 refine lo rfl (pr_ixa (j := 0) (m' := 0) sd (by omega) Try.underlying154 (z := 1) kr rfl rfl rfl) rfl rfl ?_
 refine lq rfl (ld_blk 0 rfl rfl Try.underlying30 rfl rfl rfl) rfl rfl ?_
 refine lm rfl rfl rfl rfl rfl ?_
 obtain ⟨s14, d15, ha_16, hb_17, hv_18⟩ := add64_at (0#64) s9 (0#64) (by first | assumption | decide)
 refine lo rfl (pr_extern hv_18 rfl rfl rfl) rfl rfl ?_
 refine lm rfl rfl rfl rfl rfl ?_
 refine lo rfl (pr_ext (vs := [(b64 s14), (b64 d15)]) rfl rfl rfl) rfl rfl ?_
 refine lo rfl (pr_ext (vs := [(b64 s14), (b64 d15)]) rfl rfl rfl) rfl rfl ?_
 refine lo rfl (pr_ixa (j := 0) (m' := 0) sd (by omega) Try.underlying154 (z := 1) kr rfl rfl rfl) rfl rfl ?_
 refine L_op rfl (op_store (vs := [(b64 s14)]) (cs' := [(b64 s14), (b64 (0#64)), (b64 (0#64)), (b64 (0#64)), (b64 (0#64))]) 0 rfl rfl kr (one_one rfl) (by first | decide | simp | exact Nat.le_refl _) rfl rfl rfl rfl rfl ?_)
 refine la rfl rfl rfl rfl rfl ?_
 refine L_nil ?_
 refine T_reg hF rfl ?_
 refine lm rfl rfl rfl rfl rfl ?_
 refine lm rfl rfl rfl rfl rfl ?_
 refine lo rfl (pr_add (add64 _ _) rfl rfl rfl) rfl rfl ?_
 refine la rfl rfl rfl rfl rfl ?_
 refine L_nil ?_
 refine T_reg hF rfl ?_
 refine lo rfl (pr_add (na_i64 (a := 0) (b := 1) sd) rfl rfl rfl) rfl rfl ?_
 refine lm rfl rfl rfl rfl rfl ?_
 refine L_nil ?_
 refine T_round ?_
 refine Tsr hF rfl ?_
 refine lo rfl (pr_cmp (bo := .lss) (nc_lt (a := 1) (b := 2)) rfl rfl rfl rfl) rfl rfl ?_
 refine L_nil ?_
 refine T_re [(3, (.pointer (some ⟨g2, 0, none⟩))), (4, (.pointer (some ⟨g3, 0, none⟩))), (5, (.pointer (some ⟨g4, 0, none⟩))), (6, (.int .i64 ((0 : Nat) : Int))), (7, (b64 a0)), (8, (b64 ((h7 + d10) + d15))), (17, (.agg [(b64 a0), (b64 a1), (b64 a2)].toArray)), (18, (.int .i64 ((0 : Nat) : Int))), (22, (.agg [(b64 r0), (b64 r1)].toArray)), (23, (.int .i64 ((1 : Nat) : Int))), (24, (.bool (decide (1 < 2))))] (sc rfl (sc rfl (sc rfl (sc rfl (sc rfl (sc rfl (sc rfl (sc rfl (sc rfl (sc rfl (sc rfl sn))))))))))) ?_
 refine T_he [0, 1, 2, 3] [.blk g4 154 [(b64 s14), (b64 (0#64)), (b64 (0#64)), (b64 (0#64)), (b64 (0#64))], .blk g3 141 [(b64 (0#64)), (b64 (0#64)), (b64 (0#64))], .blk g2 31 [(b64 r0), (b64 r1)], .blk g1 141 [(b64 a0), (b64 a1), (b64 a2)]] ⟨by decide, rfl⟩ ?_
 refine T_seq ?_
 refine T_cond_t rfl ?_
 refine T_skip ?_
 refine T_seq ?_
 refine T_block ?_
 refine Tsr hF rfl ?_
 refine lm rfl rfl rfl rfl rfl ?_
 refine lo rfl (pr_ix (cs := [(b64 r0), (b64 r1)]) (j := 1) sd rfl Try.underlying31 Try.underlying30 rfl kr rfl rfl rfl) rfl rfl ?_
 refine la rfl rfl rfl rfl rfl ?_
 refine la rfl rfl rfl rfl rfl ?_
 refine L_nil ?_
 refine Tsr hF rfl ?_
 refine lm rfl rfl rfl rfl rfl ?_
 refine lm rfl rfl rfl rfl rfl ?_
 refine L_op rfl (op_cn (fun w hw => mul64_f a0 r1 w (hok_nil w) ) (enters_of Try.func101 kr rfl) rfl rfl rfl rfl rfl (fun t19 q20 => ?_))
 obtain ⟨h21, l22⟩ := t19
 have q20 : 18446744073709551616 * h21.toNat + l22.toNat = a0.toNat * r1.toNat := q20
 refine lm rfl rfl rfl rfl rfl ?_
 refine lo rfl (pr_ext (vs := [(b64 h21), (b64 l22)]) rfl rfl rfl) rfl rfl ?_
 refine lo rfl (pr_ext (vs := [(b64 h21), (b64 l22)]) rfl rfl rfl) rfl rfl ?_
 refine la rfl rfl rfl rfl rfl ?_
 refine la rfl rfl rfl rfl rfl ?_
 refine L_nil ?_
 refine Tsr hF rfl ?_
 refine la rfl rfl rfl rfl rfl ?_
 refine L_nil ?_
 refine Tsr hF rfl ?_
 refine lm rfl rfl rfl rfl rfl ?_
 refine lm rfl rfl rfl rfl rfl ?_
 obtain ⟨s23, d24, ha_25, hb_26, hv_27⟩ := add64_at l22 ((h7 + d10) + d15) (0#64) (by first | assumption | decide)
 refine lo rfl (pr_extern hv_27 rfl rfl rfl) rfl rfl ?_
 refine lm rfl rfl rfl rfl rfl ?_
 refine lo rfl (pr_ext (vs := [(b64 s23), (b64 d24)]) rfl rfl rfl) rfl rfl ?_
 refine lo rfl (pr_ext (vs := [(b64 s23), (b64 d24)]) rfl rfl rfl) rfl rfl ?_
 refine la rfl rfl rfl rfl rfl ?_
 refine la rfl rfl rfl rfl rfl ?_
 refine L_nil ?_
 refine Tsr hF rfl ?_
 refine lm rfl rfl rfl rfl rfl ?_
 refine lm rfl rfl rfl rfl rfl ?_
 refine lo rfl (pr_add (add64 _ _) rfl rfl rfl) rfl rfl ?_
 refine la rfl rfl rfl rfl rfl ?_
 refine L_nil ?_
 refine Tsr hF rfl ?_
 refine lm rfl rfl rfl rfl rfl ?_
 refine lm rfl rfl rfl rfl rfl ?_
 refine lo rfl (pr_add (na_i64 (a := 0) (b := 1) sd) rfl rfl rfl) rfl rfl ?_
 refine lm rfl rfl rfl rfl rfl ?_
 refine lm rfl rfl rfl rfl rfl ?_
 refine lo rfl (pr_add (na_i64 (a := 0) (b := 1) sd) rfl rfl rfl) rfl rfl ?_
 refine lo rfl (pr_ixa (j := 1) (m' := 1) sd (by omega) Try.underlying154 (z := 1) kr rfl rfl rfl) rfl rfl ?_
 refine lq rfl (ld_blk 0 rfl rfl Try.underlying30 rfl rfl rfl) rfl rfl ?_
 refine lm rfl rfl rfl rfl rfl ?_
 obtain ⟨s28, d29, ha_30, hb_31, hv_32⟩ := add64_at (0#64) s23 (0#64) (by first | assumption | decide)
 refine lo rfl (pr_extern hv_32 rfl rfl rfl) rfl rfl ?_
 refine lm rfl rfl rfl rfl rfl ?_
 refine lo rfl (pr_ext (vs := [(b64 s28), (b64 d29)]) rfl rfl rfl) rfl rfl ?_
 refine lo rfl (pr_ext (vs := [(b64 s28), (b64 d29)]) rfl rfl rfl) rfl rfl ?_
 refine lo rfl (pr_ixa (j := 1) (m' := 1) sd (by omega) Try.underlying154 (z := 1) kr rfl rfl rfl) rfl rfl ?_
 refine L_op rfl (op_store (vs := [(b64 s28)]) (cs' := [(b64 s14), (b64 s28), (b64 (0#64)), (b64 (0#64)), (b64 (0#64))]) 0 rfl rfl kr (one_one rfl) (by first | decide | simp | exact Nat.le_refl _) rfl rfl rfl rfl rfl ?_)
 refine la rfl rfl rfl rfl rfl ?_
 refine L_nil ?_
 refine T_reg hF rfl ?_
 refine lm rfl rfl rfl rfl rfl ?_
 refine lm rfl rfl rfl rfl rfl ?_
 refine lo rfl (pr_add (add64 _ _) rfl rfl rfl) rfl rfl ?_
 refine la rfl rfl rfl rfl rfl ?_
 refine L_nil ?_
 refine T_reg hF rfl ?_
 refine lo rfl (pr_add (na_i64 (a := 1) (b := 1) sd) rfl rfl rfl) rfl rfl ?_
 refine lm rfl rfl rfl rfl rfl ?_
 refine L_nil ?_
 refine T_round ?_
 refine Tsr hF rfl ?_
 refine lo rfl (pr_cmp (bo := .lss) (nc_lt (a := 2) (b := 2)) rfl rfl rfl rfl) rfl rfl ?_
 refine L_nil ?_
 refine T_seq ?_
 refine T_cond_f rfl ?_
 refine T_exit rfl ?_
 refine Tsr hF rfl ?_
 refine lm rfl rfl rfl rfl rfl ?_
 refine lo rfl (pr_add (na_i64 (a := 0) (b := 2) sd) rfl rfl rfl) rfl rfl ?_
 refine lo rfl (pr_ixa (j := 2) (m' := 2) sd (by omega) Try.underlying154 (z := 1) kr rfl rfl rfl) rfl rfl ?_
 refine lq rfl (ld_blk 0 rfl rfl Try.underlying30 rfl rfl rfl) rfl rfl ?_
 refine lm rfl rfl rfl rfl rfl ?_
 refine lo rfl (pr_add (add64 _ _) rfl rfl rfl) rfl rfl ?_
 refine lo rfl (pr_ixa (j := 2) (m' := 2) sd (by omega) Try.underlying154 (z := 1) kr rfl rfl rfl) rfl rfl ?_
 refine L_op rfl (op_store (vs := [(b64 (0#64 + ((h21 + d24) + d29)))]) (cs' := [(b64 s14), (b64 s28), (b64 (0#64 + ((h21 + d24) + d29))), (b64 (0#64)), (b64 (0#64))]) 0 rfl rfl kr (one_one rfl) (by first | decide | simp | exact Nat.le_refl _) rfl rfl rfl rfl rfl ?_)
 refine L_nil ?_
 refine Tsr hF rfl ?_
 refine lm rfl rfl rfl rfl rfl ?_
 refine lo rfl (pr_cmp (bo := .eql) (nc_eq (a := 0) (b := 2)) rfl rfl rfl rfl) rfl rfl ?_
 refine L_nil ?_
 refine T_cond_f rfl ?_
 refine T_skip ?_
 refine T_reg hF rfl ?_
 refine lo rfl (pr_add (na_i64 (a := 0) (b := 1) sd) rfl rfl rfl) rfl rfl ?_
 refine lm rfl rfl rfl rfl rfl ?_
 refine L_nil ?_
 refine T_round ?_
 refine Tsr hF rfl ?_
 refine lo rfl (pr_cmp (bo := .lss) (nc_lt (a := 1) (b := 3)) rfl rfl rfl rfl) rfl rfl ?_
 refine L_nil ?_
 refine T_seq ?_
 refine T_cond_t rfl ?_
 refine T_skip ?_
 refine T_seq ?_
 refine T_block ?_
 refine Tsr hF rfl ?_
 refine lm rfl rfl rfl rfl rfl ?_
 refine lo rfl (pr_ix (cs := [(b64 a0), (b64 a1), (b64 a2)]) (j := 1) sd rfl Try.underlying141 Try.underlying30 rfl kr rfl rfl rfl) rfl rfl ?_
 refine la rfl rfl rfl rfl rfl ?_
 refine la rfl rfl rfl rfl rfl ?_
 refine L_nil ?_
 refine Tsr hF rfl ?_
 refine la rfl rfl rfl rfl rfl ?_
 refine L_nil ?_
 refine T_seq ?_
 refine Tsr hF rfl ?_
 refine lq rfl (ld_agg (ds := [(b64 r0), (b64 r1)]) 2 rfl agg_all Try.underlying31 rfl kr rfl rfl) rfl rfl ?_
 refine lm rfl rfl rfl rfl rfl ?_
 refine L_nil ?_
 refine T_block ?_
 refine T_rounds 3 ?_
 refine T_round ?_
 refine Tsr hF rfl ?_
 refine lo rfl (pr_cmp (bo := .lss) (nc_lt (a := 0) (b := 2)) rfl rfl rfl rfl) rfl rfl ?_
 refine L_nil ?_
 refine T_re [(3, (.pointer (some ⟨g2, 0, none⟩))), (4, (.pointer (some ⟨g3, 0, none⟩))), (5, (.pointer (some ⟨g4, 0, none⟩))), (6, (.int .i64 ((1 : Nat) : Int))), (7, (b64 a1)), (8, (b64 (0#64))), (17, (.agg [(b64 a0), (b64 a1), (b64 a2)].toArray)), (18, (.int .i64 ((1 : Nat) : Int))), (22, (.agg [(b64 r0), (b64 r1)].toArray)), (23, (.int .i64 ((0 : Nat) : Int))), (24, (.bool (decide (0 < 2))))] (sc rfl (sc rfl (sc rfl (sc rfl (sc rfl (sc rfl (sc rfl (sc rfl (sc rfl (sc rfl (sc rfl sn))))))))))) ?_
 refine T_he [0, 1, 2, 3] [.blk g4 154 [(b64 s14), (b64 s28), (b64 (0#64 + ((h21 + d24) + d29))), (b64 (0#64)), (b64 (0#64))], .blk g3 141 [(b64 (0#64)), (b64 (0#64)), (b64 (0#64))], .blk g2 31 [(b64 r0), (b64 r1)], .blk g1 141 [(b64 a0), (b64 a1), (b64 a2)]] ⟨by decide, rfl⟩ ?_
 refine T_seq ?_
 refine T_cond_t rfl ?_
 refine T_skip ?_
 refine T_seq ?_
 refine T_block ?_
 refine Tsr hF rfl ?_
 refine lm rfl rfl rfl rfl rfl ?_
 refine lo rfl (pr_ix (cs := [(b64 r0), (b64 r1)]) (j := 0) sd rfl Try.underlying31 Try.underlying30 rfl kr rfl rfl rfl) rfl rfl ?_
 refine la rfl rfl rfl rfl rfl ?_
 refine la rfl rfl rfl rfl rfl ?_
 refine L_nil ?_
 refine Tsr hF rfl ?_
 refine lm rfl rfl rfl rfl rfl ?_
 refine lm rfl rfl rfl rfl rfl ?_
 refine L_op rfl (op_cn (fun w hw => mul64_f a1 r0 w (hok_nil w) ) (enters_of Try.func101 kr rfl) rfl rfl rfl rfl rfl (fun t33 q34 => ?_))
 obtain ⟨h35, l36⟩ := t33
 have q34 : 18446744073709551616 * h35.toNat + l36.toNat = a1.toNat * r0.toNat := q34
 refine lm rfl rfl rfl rfl rfl ?_
 refine lo rfl (pr_ext (vs := [(b64 h35), (b64 l36)]) rfl rfl rfl) rfl rfl ?_
 refine lo rfl (pr_ext (vs := [(b64 h35), (b64 l36)]) rfl rfl rfl) rfl rfl ?_
 refine la rfl rfl rfl rfl rfl ?_
 refine la rfl rfl rfl rfl rfl ?_
 refine L_nil ?_
 refine Tsr hF rfl ?_
 refine la rfl rfl rfl rfl rfl ?_
 refine L_nil ?_
 refine Tsr hF rfl ?_
 refine lm rfl rfl rfl rfl rfl ?_
 refine lm rfl rfl rfl rfl rfl ?_
 obtain ⟨s37, d38, ha_39, hb_40, hv_41⟩ := add64_at l36 (0#64) (0#64) (by first | assumption | decide)
 refine lo rfl (pr_extern hv_41 rfl rfl rfl) rfl rfl ?_
 refine lm rfl rfl rfl rfl rfl ?_
 refine lo rfl (pr_ext (vs := [(b64 s37), (b64 d38)]) rfl rfl rfl) rfl rfl ?_
 refine lo rfl (pr_ext (vs := [(b64 s37), (b64 d38)]) rfl rfl rfl) rfl rfl ?_
 refine la rfl rfl rfl rfl rfl ?_
 refine la rfl rfl rfl rfl rfl ?_
 refine L_nil ?_
 refine Tsr hF rfl ?_
 refine lm rfl rfl rfl rfl rfl ?_
 refine lm rfl rfl rfl rfl rfl ?_
 refine lo rfl (pr_add (add64 _ _) rfl rfl rfl) rfl rfl ?_
 refine la rfl rfl rfl rfl rfl ?_
 refine L_nil ?_
 refine Tsr hF rfl ?_
 refine lm rfl rfl rfl rfl rfl ?_
 refine lm rfl rfl rfl rfl rfl ?_
 refine lo rfl (pr_add (na_i64 (a := 1) (b := 0) sd) rfl rfl rfl) rfl rfl ?_
 refine lm rfl rfl rfl rfl rfl ?_
 refine lm rfl rfl rfl rfl rfl ?_
 refine lo rfl (pr_add (na_i64 (a := 1) (b := 0) sd) rfl rfl rfl) rfl rfl ?_
 refine lo rfl (pr_ixa (j := 1) (m' := 1) sd (by omega) Try.underlying154 (z := 1) kr rfl rfl rfl) rfl rfl ?_
 refine lq rfl (ld_blk 0 rfl rfl Try.underlying30 rfl rfl rfl) rfl rfl ?_
 refine lm rfl rfl rfl rfl rfl ?_
 obtain ⟨s42, d43, ha_44, hb_45, hv_46⟩ := add64_at s28 s37 (0#64) (by first | assumption | decide)
 refine lo rfl (pr_extern hv_46 rfl rfl rfl) rfl rfl ?_
 refine lm rfl rfl rfl rfl rfl ?_
 refine lo rfl (pr_ext (vs := [(b64 s42), (b64 d43)]) rfl rfl rfl) rfl rfl ?_
 refine lo rfl (pr_ext (vs := [(b64 s42), (b64 d43)]) rfl rfl rfl) rfl rfl ?_
 refine lo rfl (pr_ixa (j := 1) (m' := 1) sd (by omega) Try.underlying154 (z := 1) kr rfl rfl rfl) rfl rfl ?_
 refine L_op rfl (op_store (vs := [(b64 s42)]) (cs' := [(b64 s14), (b64 s42), (b64 (0#64 + ((h21 + d24) + d29))), (b64 (0#64)), (b64 (0#64))]) 0 rfl rfl kr (one_one rfl) (by first | decide | simp | exact Nat.le_refl _) rfl rfl rfl rfl rfl ?_)
 refine la rfl rfl rfl rfl rfl ?_
 refine L_nil ?_
 refine T_reg hF rfl ?_
 refine lm rfl rfl rfl rfl rfl ?_
 refine lm rfl rfl rfl rfl rfl ?_
 refine lo rfl (pr_add (add64 _ _) rfl rfl rfl) rfl rfl ?_
 refine la rfl rfl rfl rfl rfl ?_
 refine L_nil ?_
 refine T_reg hF rfl ?_
 refine lo rfl (pr_add (na_i64 (a := 0) (b := 1) sd) rfl rfl rfl) rfl rfl ?_
 refine lm rfl rfl rfl rfl rfl ?_
 refine L_nil ?_
 refine T_round ?_
 refine Tsr hF rfl ?_
 refine lo rfl (pr_cmp (bo := .lss) (nc_lt (a := 1) (b := 2)) rfl rfl rfl rfl) rfl rfl ?_
 refine L_nil ?_
 refine T_seq ?_
 refine T_cond_t rfl ?_
 refine T_skip ?_
 refine T_seq ?_
 refine T_block ?_
 refine Tsr hF rfl ?_
 refine lm rfl rfl rfl rfl rfl ?_
 refine lo rfl (pr_ix (cs := [(b64 r0), (b64 r1)]) (j := 1) sd rfl Try.underlying31 Try.underlying30 rfl kr rfl rfl rfl) rfl rfl ?_
 refine la rfl rfl rfl rfl rfl ?_
 refine la rfl rfl rfl rfl rfl ?_
 refine L_nil ?_
 refine Tsr hF rfl ?_
 refine lm rfl rfl rfl rfl rfl ?_
 refine lm rfl rfl rfl rfl rfl ?_
 refine L_op rfl (op_cn (fun w hw => mul64_f a1 r1 w (hok_nil w) ) (enters_of Try.func101 kr rfl) rfl rfl rfl rfl rfl (fun t47 q48 => ?_))
 obtain ⟨h49, l50⟩ := t47
 have q48 : 18446744073709551616 * h49.toNat + l50.toNat = a1.toNat * r1.toNat := q48
 refine lm rfl rfl rfl rfl rfl ?_
 refine lo rfl (pr_ext (vs := [(b64 h49), (b64 l50)]) rfl rfl rfl) rfl rfl ?_
 refine lo rfl (pr_ext (vs := [(b64 h49), (b64 l50)]) rfl rfl rfl) rfl rfl ?_
 refine la rfl rfl rfl rfl rfl ?_
 refine la rfl rfl rfl rfl rfl ?_
 refine L_nil ?_
 refine Tsr hF rfl ?_
 refine la rfl rfl rfl rfl rfl ?_
 refine L_nil ?_
 refine Tsr hF rfl ?_
 refine lm rfl rfl rfl rfl rfl ?_
 refine lm rfl rfl rfl rfl rfl ?_
 obtain ⟨s51, d52, ha_53, hb_54, hv_55⟩ := add64_at l50 ((h35 + d38) + d43) (0#64) (by first | assumption | decide)
 refine lo rfl (pr_extern hv_55 rfl rfl rfl) rfl rfl ?_
 refine lm rfl rfl rfl rfl rfl ?_
 refine lo rfl (pr_ext (vs := [(b64 s51), (b64 d52)]) rfl rfl rfl) rfl rfl ?_
 refine lo rfl (pr_ext (vs := [(b64 s51), (b64 d52)]) rfl rfl rfl) rfl rfl ?_
 refine la rfl rfl rfl rfl rfl ?_
 refine la rfl rfl rfl rfl rfl ?_
 refine L_nil ?_
 refine Tsr hF rfl ?_
 refine lm rfl rfl rfl rfl rfl ?_
 refine lm rfl rfl rfl rfl rfl ?_
 refine lo rfl (pr_add (add64 _ _) rfl rfl rfl) rfl rfl ?_
 refine la rfl rfl rfl rfl rfl ?_
 refine L_nil ?_
 refine Tsr hF rfl ?_
 refine lm rfl rfl rfl rfl rfl ?_
 refine lm rfl rfl rfl rfl rfl ?_
 refine lo rfl (pr_add (na_i64 (a := 1) (b := 1) sd) rfl rfl rfl) rfl rfl ?_
 refine lm rfl rfl rfl rfl rfl ?_
 refine lm rfl rfl rfl rfl rfl ?_
 refine lo rfl (pr_add (na_i64 (a := 1) (b := 1) sd) rfl rfl rfl) rfl rfl ?_
 refine lo rfl (pr_ixa (j := 2) (m' := 2) sd (by omega) Try.underlying154 (z := 1) kr rfl rfl rfl) rfl rfl ?_
 refine lq rfl (ld_blk 0 rfl rfl Try.underlying30 rfl rfl rfl) rfl rfl ?_
 refine lm rfl rfl rfl rfl rfl ?_
 obtain ⟨s56, d57, ha_58, hb_59, hv_60⟩ := add64_at (0#64 + ((h21 + d24) + d29)) s51 (0#64) (by first | assumption | decide)
 refine lo rfl (pr_extern hv_60 rfl rfl rfl) rfl rfl ?_
 refine lm rfl rfl rfl rfl rfl ?_
 refine lo rfl (pr_ext (vs := [(b64 s56), (b64 d57)]) rfl rfl rfl) rfl rfl ?_
 refine lo rfl (pr_ext (vs := [(b64 s56), (b64 d57)]) rfl rfl rfl) rfl rfl ?_
 refine lo rfl (pr_ixa (j := 2) (m' := 2) sd (by omega) Try.underlying154 (z := 1) kr rfl rfl rfl) rfl rfl ?_
 refine L_op rfl (op_store (vs := [(b64 s56)]) (cs' := [(b64 s14), (b64 s42), (b64 s56), (b64 (0#64)), (b64 (0#64))]) 0 rfl rfl kr (one_one rfl) (by first | decide | simp | exact Nat.le_refl _) rfl rfl rfl rfl rfl ?_)
 refine la rfl rfl rfl rfl rfl ?_
 refine L_nil ?_
 refine T_reg hF rfl ?_
 refine lm rfl rfl rfl rfl rfl ?_
 refine lm rfl rfl rfl rfl rfl ?_
 refine lo rfl (pr_add (add64 _ _) rfl rfl rfl) rfl rfl ?_
 refine la rfl rfl rfl rfl rfl ?_
 refine L_nil ?_
 refine T_reg hF rfl ?_
 refine lo rfl (pr_add (na_i64 (a := 1) (b := 1) sd) rfl rfl rfl) rfl rfl ?_
 refine lm rfl rfl rfl rfl rfl ?_
 refine L_nil ?_
 refine T_round ?_
 refine Tsr hF rfl ?_
 refine lo rfl (pr_cmp (bo := .lss) (nc_lt (a := 2) (b := 2)) rfl rfl rfl rfl) rfl rfl ?_
 refine L_nil ?_
 refine T_re [(3, (.pointer (some ⟨g2, 0, none⟩))), (4, (.pointer (some ⟨g3, 0, none⟩))), (5, (.pointer (some ⟨g4, 0, none⟩))), (6, (.int .i64 ((1 : Nat) : Int))), (7, (b64 a1)), (8, (b64 ((h49 + d52) + d57))), (17, (.agg [(b64 a0), (b64 a1), (b64 a2)].toArray)), (18, (.int .i64 ((1 : Nat) : Int))), (22, (.agg [(b64 r0), (b64 r1)].toArray)), (23, (.int .i64 ((2 : Nat) : Int))), (24, (.bool (decide (2 < 2))))] (sc rfl (sc rfl (sc rfl (sc rfl (sc rfl (sc rfl (sc rfl (sc rfl (sc rfl (sc rfl (sc rfl sn))))))))))) ?_
 refine T_he [0, 1, 2, 3] [.blk g4 154 [(b64 s14), (b64 s42), (b64 s56), (b64 (0#64)), (b64 (0#64))], .blk g3 141 [(b64 (0#64)), (b64 (0#64)), (b64 (0#64))], .blk g2 31 [(b64 r0), (b64 r1)], .blk g1 141 [(b64 a0), (b64 a1), (b64 a2)]] ⟨by decide, rfl⟩ ?_
 refine T_seq ?_
 refine T_cond_f rfl ?_
 refine T_exit rfl ?_
 refine Tsr hF rfl ?_
 refine lm rfl rfl rfl rfl rfl ?_
 refine lo rfl (pr_add (na_i64 (a := 1) (b := 2) sd) rfl rfl rfl) rfl rfl ?_
 refine lo rfl (pr_ixa (j := 3) (m' := 3) sd (by omega) Try.underlying154 (z := 1) kr rfl rfl rfl) rfl rfl ?_
 refine lq rfl (ld_blk 0 rfl rfl Try.underlying30 rfl rfl rfl) rfl rfl ?_
 refine lm rfl rfl rfl rfl rfl ?_
 refine lo rfl (pr_add (add64 _ _) rfl rfl rfl) rfl rfl ?_
 refine lo rfl (pr_ixa (j := 3) (m' := 3) sd (by omega) Try.underlying154 (z := 1) kr rfl rfl rfl) rfl rfl ?_
 refine L_op rfl (op_store (vs := [(b64 (0#64 + ((h49 + d52) + d57)))]) (cs' := [(b64 s14), (b64 s42), (b64 s56), (b64 (0#64 + ((h49 + d52) + d57))), (b64 (0#64))]) 0 rfl rfl kr (one_one rfl) (by first | decide | simp | exact Nat.le_refl _) rfl rfl rfl rfl rfl ?_)
 refine L_nil ?_
 refine Tsr hF rfl ?_
 refine lm rfl rfl rfl rfl rfl ?_
 refine lo rfl (pr_cmp (bo := .eql) (nc_eq (a := 1) (b := 2)) rfl rfl rfl rfl) rfl rfl ?_
 refine L_nil ?_
 refine T_cond_f rfl ?_
 refine T_skip ?_
 refine T_reg hF rfl ?_
 refine lo rfl (pr_add (na_i64 (a := 1) (b := 1) sd) rfl rfl rfl) rfl rfl ?_
 refine lm rfl rfl rfl rfl rfl ?_
 refine L_nil ?_
 refine T_round ?_
 refine Tsr hF rfl ?_
 refine lo rfl (pr_cmp (bo := .lss) (nc_lt (a := 2) (b := 3)) rfl rfl rfl rfl) rfl rfl ?_
 refine L_nil ?_
 refine T_seq ?_
 refine T_cond_t rfl ?_
 refine T_skip ?_
 refine T_seq ?_
 refine T_block ?_
 refine Tsr hF rfl ?_
 refine lm rfl rfl rfl rfl rfl ?_
 refine lo rfl (pr_ix (cs := [(b64 a0), (b64 a1), (b64 a2)]) (j := 2) sd rfl Try.underlying141 Try.underlying30 rfl kr rfl rfl rfl) rfl rfl ?_
 refine la rfl rfl rfl rfl rfl ?_
 refine la rfl rfl rfl rfl rfl ?_
 refine L_nil ?_
 refine Tsr hF rfl ?_
 refine la rfl rfl rfl rfl rfl ?_
 refine L_nil ?_
 refine T_seq ?_
 refine Tsr hF rfl ?_
 refine lq rfl (ld_agg (ds := [(b64 r0), (b64 r1)]) 2 rfl agg_all Try.underlying31 rfl kr rfl rfl) rfl rfl ?_
 refine lm rfl rfl rfl rfl rfl ?_
 refine L_nil ?_
 refine T_block ?_
 refine T_rounds 3 ?_
 refine T_round ?_
 refine Tsr hF rfl ?_
 refine lo rfl (pr_cmp (bo := .lss) (nc_lt (a := 0) (b := 2)) rfl rfl rfl rfl) rfl rfl ?_
 refine L_nil ?_
 refine T_seq ?_
 refine T_cond_t rfl ?_
 refine T_skip ?_
 refine T_seq ?_
 refine T_block ?_
 refine Tsr hF rfl ?_
 refine lm rfl rfl rfl rfl rfl ?_
 refine lo rfl (pr_ix (cs := [(b64 r0), (b64 r1)]) (j := 0) sd rfl Try.underlying31 Try.underlying30 rfl kr rfl rfl rfl) rfl rfl ?_
 refine la rfl rfl rfl rfl rfl ?_
 refine la rfl rfl rfl rfl rfl ?_
 refine L_nil ?_
 refine Tsr hF rfl ?_
 refine lm rfl rfl rfl rfl rfl ?_
 refine lm rfl rfl rfl rfl rfl ?_
 refine L_op rfl (op_cn (fun w hw => mul64_f a2 r0 w (hok_nil w) ) (enters_of Try.func101 kr rfl) rfl rfl rfl rfl rfl (fun t61 q62 => ?_))
 obtain ⟨h63, l64⟩ := t61
 have q62 : 18446744073709551616 * h63.toNat + l64.toNat = a2.toNat * r0.toNat := q62
 refine lm rfl rfl rfl rfl rfl ?_
 refine lo rfl (pr_ext (vs := [(b64 h63), (b64 l64)]) rfl rfl rfl) rfl rfl ?_
 refine lo rfl (pr_ext (vs := [(b64 h63), (b64 l64)]) rfl rfl rfl) rfl rfl ?_
 refine la rfl rfl rfl rfl rfl ?_
 refine la rfl rfl rfl rfl rfl ?_
 refine L_nil ?_
 refine Tsr hF rfl ?_
 refine la rfl rfl rfl rfl rfl ?_
 refine L_nil ?_
 refine Tsr hF rfl ?_
 refine lm rfl rfl rfl rfl rfl ?_
 refine lm rfl rfl rfl rfl rfl ?_
 obtain ⟨s65, d66, ha_67, hb_68, hv_69⟩ := add64_at l64 (0#64) (0#64) (by first | assumption | decide)
 refine lo rfl (pr_extern hv_69 rfl rfl rfl) rfl rfl ?_
 refine lm rfl rfl rfl rfl rfl ?_
 refine lo rfl (pr_ext (vs := [(b64 s65), (b64 d66)]) rfl rfl rfl) rfl rfl ?_
 refine lo rfl (pr_ext (vs := [(b64 s65), (b64 d66)]) rfl rfl rfl) rfl rfl ?_
 refine la rfl rfl rfl rfl rfl ?_
 refine la rfl rfl rfl rfl rfl ?_
 refine L_nil ?_
 refine Tsr hF rfl ?_
 refine lm rfl rfl rfl rfl rfl ?_
 refine lm rfl rfl rfl rfl rfl ?_
 refine lo rfl (pr_add (add64 _ _) rfl rfl rfl) rfl rfl ?_
 refine la rfl rfl rfl rfl rfl ?_
 refine L_nil ?_
 refine Tsr hF rfl ?_
 refine lm rfl rfl rfl rfl rfl ?_
 refine lm rfl rfl rfl rfl rfl ?_
 refine lo rfl (pr_add (na_i64 (a := 2) (b := 0) sd) rfl rfl rfl) rfl rfl ?_
 refine lm rfl rfl rfl rfl rfl ?_
 refine lm rfl rfl rfl rfl rfl ?_
 refine lo rfl (pr_add (na_i64 (a := 2) (b := 0) sd) rfl rfl rfl) rfl rfl ?_
 refine lo rfl (pr_ixa (j := 2) (m' := 2) sd (by omega) Try.underlying154 (z := 1) kr rfl rfl rfl) rfl rfl ?_
 refine lq rfl (ld_blk 0 rfl rfl Try.underlying30 rfl rfl rfl) rfl rfl ?_
 refine lm rfl rfl rfl rfl rfl ?_
 obtain ⟨s70, d71, ha_72, hb_73, hv_74⟩ := add64_at s56 s65 (0#64) (by first | assumption | decide)
 refine lo rfl (pr_extern hv_74 rfl rfl rfl) rfl rfl ?_
 refine lm rfl rfl rfl rfl rfl ?_
 refine lo rfl (pr_ext (vs := [(b64 s70), (b64 d71)]) rfl rfl rfl) rfl rfl ?_
 refine lo rfl (pr_ext (vs := [(b64 s70), (b64 d71)]) rfl rfl rfl) rfl rfl ?_
 refine lo rfl (pr_ixa (j := 2) (m' := 2) sd (by omega) Try.underlying154 (z := 1) kr rfl rfl rfl) rfl rfl ?_
 refine L_op rfl (op_store (vs := [(b64 s70)]) (cs' := [(b64 s14), (b64 s42), (b64 s70), (b64 (0#64 + ((h49 + d52) + d57))), (b64 (0#64))]) 0 rfl rfl kr (one_one rfl) (by first | decide | simp | exact Nat.le_refl _) rfl rfl rfl rfl rfl ?_)
 refine la rfl rfl rfl rfl rfl ?_
 refine L_nil ?_
 refine T_reg hF rfl ?_
 refine lm rfl rfl rfl rfl rfl ?_
 refine lm rfl rfl rfl rfl rfl ?_
 refine lo rfl (pr_add (add64 _ _) rfl rfl rfl) rfl rfl ?_
 refine la rfl rfl rfl rfl rfl ?_
 refine L_nil ?_
 refine T_reg hF rfl ?_
 refine lo rfl (pr_add (na_i64 (a := 0) (b := 1) sd) rfl rfl rfl) rfl rfl ?_
 refine lm rfl rfl rfl rfl rfl ?_
 refine L_nil ?_
 refine T_round ?_
 refine Tsr hF rfl ?_
 refine lo rfl (pr_cmp (bo := .lss) (nc_lt (a := 1) (b := 2)) rfl rfl rfl rfl) rfl rfl ?_
 refine L_nil ?_
 refine T_re [(3, (.pointer (some ⟨g2, 0, none⟩))), (4, (.pointer (some ⟨g3, 0, none⟩))), (5, (.pointer (some ⟨g4, 0, none⟩))), (6, (.int .i64 ((2 : Nat) : Int))), (7, (b64 a2)), (8, (b64 ((h63 + d66) + d71))), (17, (.agg [(b64 a0), (b64 a1), (b64 a2)].toArray)), (18, (.int .i64 ((2 : Nat) : Int))), (22, (.agg [(b64 r0), (b64 r1)].toArray)), (23, (.int .i64 ((1 : Nat) : Int))), (24, (.bool (decide (1 < 2))))] (sc rfl (sc rfl (sc rfl (sc rfl (sc rfl (sc rfl (sc rfl (sc rfl (sc rfl (sc rfl (sc rfl sn))))))))))) ?_
 refine T_he [0, 1, 2, 3] [.blk g4 154 [(b64 s14), (b64 s42), (b64 s70), (b64 (0#64 + ((h49 + d52) + d57))), (b64 (0#64))], .blk g3 141 [(b64 (0#64)), (b64 (0#64)), (b64 (0#64))], .blk g2 31 [(b64 r0), (b64 r1)], .blk g1 141 [(b64 a0), (b64 a1), (b64 a2)]] ⟨by decide, rfl⟩ ?_
 refine T_seq ?_
 refine T_cond_t rfl ?_
 refine T_skip ?_
 refine T_seq ?_
 refine T_block ?_
 refine Tsr hF rfl ?_
 refine lm rfl rfl rfl rfl rfl ?_
 refine lo rfl (pr_ix (cs := [(b64 r0), (b64 r1)]) (j := 1) sd rfl Try.underlying31 Try.underlying30 rfl kr rfl rfl rfl) rfl rfl ?_
 refine la rfl rfl rfl rfl rfl ?_
 refine la rfl rfl rfl rfl rfl ?_
 refine L_nil ?_
 refine Tsr hF rfl ?_
 refine lm rfl rfl rfl rfl rfl ?_
 refine lm rfl rfl rfl rfl rfl ?_
 refine L_op rfl (op_cn (fun w hw => mul64_f a2 r1 w (hok_nil w) ) (enters_of Try.func101 kr rfl) rfl rfl rfl rfl rfl (fun t75 q76 => ?_))
 obtain ⟨h77, l78⟩ := t75
 have q76 : 18446744073709551616 * h77.toNat + l78.toNat = a2.toNat * r1.toNat := q76
 refine lm rfl rfl rfl rfl rfl ?_
 refine lo rfl (pr_ext (vs := [(b64 h77), (b64 l78)]) rfl rfl rfl) rfl rfl ?_
 refine lo rfl (pr_ext (vs := [(b64 h77), (b64 l78)]) rfl rfl rfl) rfl rfl ?_
 refine la rfl rfl rfl rfl rfl ?_
 refine la rfl rfl rfl rfl rfl ?_
 refine L_nil ?_
 refine Tsr hF rfl ?_
 refine la rfl rfl rfl rfl rfl ?_
 refine L_nil ?_
 refine Tsr hF rfl ?_
 refine lm rfl rfl rfl rfl rfl ?_
 refine lm rfl rfl rfl rfl rfl ?_
 obtain ⟨s79, d80, ha_81, hb_82, hv_83⟩ := add64_at l78 ((h63 + d66) + d71) (0#64) (by first | assumption | decide)
 refine lo rfl (pr_extern hv_83 rfl rfl rfl) rfl rfl ?_
 refine lm rfl rfl rfl rfl rfl ?_
 refine lo rfl (pr_ext (vs := [(b64 s79), (b64 d80)]) rfl rfl rfl) rfl rfl ?_
 refine lo rfl (pr_ext (vs := [(b64 s79), (b64 d80)]) rfl rfl rfl) rfl rfl ?_
 refine la rfl rfl rfl rfl rfl ?_
 refine la rfl rfl rfl rfl rfl ?_
 refine L_nil ?_
 refine Tsr hF rfl ?_
 refine lm rfl rfl rfl rfl rfl ?_
 refine lm rfl rfl rfl rfl rfl ?_
 refine lo rfl (pr_add (add64 _ _) rfl rfl rfl) rfl rfl ?_
 refine la rfl rfl rfl rfl rfl ?_
 refine L_nil ?_
 refine Tsr hF rfl ?_
 refine lm rfl rfl rfl rfl rfl ?_
 refine lm rfl rfl rfl rfl rfl ?_
 refine lo rfl (pr_add (na_i64 (a := 2) (b := 1) sd) rfl rfl rfl) rfl rfl ?_
 refine lm rfl rfl rfl rfl rfl ?_
 refine lm rfl rfl rfl rfl rfl ?_
 refine lo rfl (pr_add (na_i64 (a := 2) (b := 1) sd) rfl rfl rfl) rfl rfl ?_
 refine lo rfl (pr_ixa (j := 3) (m' := 3) sd (by omega) Try.underlying154 (z := 1) kr rfl rfl rfl) rfl rfl ?_
 refine lq rfl (ld_blk 0 rfl rfl Try.underlying30 rfl rfl rfl) rfl rfl ?_
 refine lm rfl rfl rfl rfl rfl ?_
 obtain ⟨s84, d85, ha_86, hb_87, hv_88⟩ := add64_at (0#64 + ((h49 + d52) + d57)) s79 (0#64) (by first | assumption | decide)
 refine lo rfl (pr_extern hv_88 rfl rfl rfl) rfl rfl ?_
 refine lm rfl rfl rfl rfl rfl ?_
 refine lo rfl (pr_ext (vs := [(b64 s84), (b64 d85)]) rfl rfl rfl) rfl rfl ?_
 refine lo rfl (pr_ext (vs := [(b64 s84), (b64 d85)]) rfl rfl rfl) rfl rfl ?_
 refine lo rfl (pr_ixa (j := 3) (m' := 3) sd (by omega) Try.underlying154 (z := 1) kr rfl rfl rfl) rfl rfl ?_
 refine L_op rfl (op_store (vs := [(b64 s84)]) (cs' := [(b64 s14), (b64 s42), (b64 s70), (b64 s84), (b64 (0#64))]) 0 rfl rfl kr (one_one rfl) (by first | decide | simp | exact Nat.le_refl _) rfl rfl rfl rfl rfl ?_)
 refine la rfl rfl rfl rfl rfl ?_
 refine L_nil ?_
 refine T_reg hF rfl ?_
 refine lm rfl rfl rfl rfl rfl ?_
 refine lm rfl rfl rfl rfl rfl ?_
 refine lo rfl (pr_add (add64 _ _) rfl rfl rfl) rfl rfl ?_
 refine la rfl rfl rfl rfl rfl ?_
 refine L_nil ?_
 refine T_reg hF rfl ?_
 refine lo rfl (pr_add (na_i64 (a := 1) (b := 1) sd) rfl rfl rfl) rfl rfl ?_
 refine lm rfl rfl rfl rfl rfl ?_
 refine L_nil ?_
 refine T_round ?_
 refine Tsr hF rfl ?_
 refine lo rfl (pr_cmp (bo := .lss) (nc_lt (a := 2) (b := 2)) rfl rfl rfl rfl) rfl rfl ?_
 refine L_nil ?_
 refine T_seq ?_
 refine T_cond_f rfl ?_
 refine T_exit rfl ?_
 refine Tsr hF rfl ?_
 refine lm rfl rfl rfl rfl rfl ?_
 refine lo rfl (pr_add (na_i64 (a := 2) (b := 2) sd) rfl rfl rfl) rfl rfl ?_
 refine lo rfl (pr_ixa (j := 4) (m' := 4) sd (by omega) Try.underlying154 (z := 1) kr rfl rfl rfl) rfl rfl ?_
 refine lq rfl (ld_blk 0 rfl rfl Try.underlying30 rfl rfl rfl) rfl rfl ?_
 refine lm rfl rfl rfl rfl rfl ?_
 refine lo rfl (pr_add (add64 _ _) rfl rfl rfl) rfl rfl ?_
 refine lo rfl (pr_ixa (j := 4) (m' := 4) sd (by omega) Try.underlying154 (z := 1) kr rfl rfl rfl) rfl rfl ?_
 refine L_op rfl (op_store (vs := [(b64 (0#64 + ((h77 + d80) + d85)))]) (cs' := [(b64 s14), (b64 s42), (b64 s70), (b64 s84), (b64 (0#64 + ((h77 + d80) + d85)))]) 0 rfl rfl kr (one_one rfl) (by first | decide | simp | exact Nat.le_refl _) rfl rfl rfl rfl rfl ?_)
 refine L_nil ?_
 refine Tsr hF rfl ?_
 refine lm rfl rfl rfl rfl rfl ?_
 refine lo rfl (pr_cmp (bo := .eql) (nc_eq (a := 2) (b := 2)) rfl rfl rfl rfl) rfl rfl ?_
 refine L_nil ?_
 refine T_cond_t rfl ?_
 refine T_exit rfl ?_
 refine Tsr hF rfl ?_
 refine lo rfl (pr_ixa (j := 0) (m' := 0) sd (by omega) Try.underlying154 (z := 1) kr rfl rfl rfl) rfl rfl ?_
 refine lq rfl (ld_blk 0 rfl rfl Try.underlying30 rfl rfl rfl) rfl rfl ?_
 refine lo rfl (pr_ixa (j := 1) (m' := 1) sd (by omega) Try.underlying154 (z := 1) kr rfl rfl rfl) rfl rfl ?_
 refine lq rfl (ld_blk 0 rfl rfl Try.underlying30 rfl rfl rfl) rfl rfl ?_
 refine lo rfl (pr_ixa (j := 2) (m' := 2) sd (by omega) Try.underlying154 (z := 1) kr rfl rfl rfl) rfl rfl ?_
 refine lq rfl (ld_blk 0 rfl rfl Try.underlying30 rfl rfl rfl) rfl rfl ?_
 refine lo rfl (pr_and (ib_and64 _ (3#64)) rfl rfl rfl) rfl rfl ?_
 refine lo rfl (pr_build (qs := [(0, (b64 s14)), (1, (b64 s42)), (2, (b64 (s70 &&& 3#64)))]) (v := .agg [(b64 s14), (b64 s42), (b64 (s70 &&& 3#64))].toArray) (fun _ => by kernel_rfl) rfl rfl) rfl rfl ?_
 refine L_op rfl (op_alloc (z := .agg [(b64 (0#64)), (b64 (0#64)), (b64 (0#64))].toArray) (zs := [(b64 (0#64)), (b64 (0#64)), (b64 (0#64))]) kr rfl rfl rfl rfl (fun g89 => ?_))
 refine L_op rfl (op_sto (n := 3) (vs := [(b64 s14), (b64 s42), (b64 (s70 &&& 3#64))]) 0 rfl rfl kr (by simp [Value.oneCell']) kr kr rfl rfl rfl rfl ?_)
 refine L_nil ?_
 refine Tsr hF rfl ?_
 refine lo rfl (pr_ixa (j := 2) (m' := 2) sd (by omega) Try.underlying154 (z := 1) kr rfl rfl rfl) rfl rfl ?_
 refine lq rfl (ld_blk 1 rfl rfl Try.underlying30 rfl rfl rfl) rfl rfl ?_
 refine lo rfl (pr_andNot (ib_andNot64 _ (3#64)) rfl rfl rfl) rfl rfl ?_
 refine lo rfl (pr_ixa (j := 3) (m' := 3) sd (by omega) Try.underlying154 (z := 1) kr rfl rfl rfl) rfl rfl ?_
 refine lq rfl (ld_blk 1 rfl rfl Try.underlying30 rfl rfl rfl) rfl rfl ?_
 refine lo rfl (pr_ixa (j := 4) (m' := 4) sd (by omega) Try.underlying154 (z := 1) kr rfl rfl rfl) rfl rfl ?_
 refine lq rfl (ld_blk 1 rfl rfl Try.underlying30 rfl rfl rfl) rfl rfl ?_
 refine lo rfl (pr_build (qs := [(0, (b64 (s70 &&& ~~~3#64))), (1, (b64 s84)), (2, (b64 (0#64 + ((h77 + d80) + d85))))]) (v := .agg [(b64 (s70 &&& ~~~3#64)), (b64 s84), (b64 (0#64 + ((h77 + d80) + d85)))].toArray) (fun _ => by kernel_rfl) rfl rfl) rfl rfl ?_
 refine L_op rfl (op_alloc (z := .agg [(b64 (0#64)), (b64 (0#64)), (b64 (0#64))].toArray) (zs := [(b64 (0#64)), (b64 (0#64)), (b64 (0#64))]) kr rfl rfl rfl rfl (fun g90 => ?_))
 refine L_op rfl (op_sto (n := 3) (vs := [(b64 (s70 &&& ~~~3#64)), (b64 s84), (b64 (0#64 + ((h77 + d80) + d85)))]) 0 rfl rfl kr (by simp [Value.oneCell']) kr kr rfl rfl rfl rfl ?_)
 refine L_nil ?_
 refine Tsr hF rfl ?_
 refine lo rfl (pr_ixa (j := 0) (m' := 0) sd (by omega) Try.underlying141 (z := 1) kr rfl rfl rfl) rfl rfl ?_
 refine lq rfl (ld_blk 0 rfl rfl Try.underlying30 rfl rfl rfl) rfl rfl ?_
 refine lo rfl (pr_shift (sh_shr64 (s70 &&& ~~~3#64) _ 2) rfl rfl rfl rfl) rfl rfl ?_
 refine lo rfl (pr_ixa (j := 1) (m' := 1) sd (by omega) Try.underlying141 (z := 1) kr rfl rfl rfl) rfl rfl ?_
 refine lq rfl (ld_blk 0 rfl rfl Try.underlying30 rfl rfl rfl) rfl rfl ?_
 refine lo rfl (pr_shift (sh_shl64 s84 _ 62) rfl rfl rfl rfl) rfl rfl ?_
 refine lo rfl (pr_or (ib_or64 _ _) rfl rfl rfl) rfl rfl ?_
 refine lo rfl (pr_ixa (j := 1) (m' := 1) sd (by omega) Try.underlying141 (z := 1) kr rfl rfl rfl) rfl rfl ?_
 refine lq rfl (ld_blk 0 rfl rfl Try.underlying30 rfl rfl rfl) rfl rfl ?_
 refine lo rfl (pr_shift (sh_shr64 s84 _ 2) rfl rfl rfl rfl) rfl rfl ?_
 refine lo rfl (pr_ixa (j := 2) (m' := 2) sd (by omega) Try.underlying141 (z := 1) kr rfl rfl rfl) rfl rfl ?_
 refine lq rfl (ld_blk 0 rfl rfl Try.underlying30 rfl rfl rfl) rfl rfl ?_
 refine lo rfl (pr_shift (sh_shl64 (0#64 + ((h77 + d80) + d85)) _ 62) rfl rfl rfl rfl) rfl rfl ?_
 refine lo rfl (pr_or (ib_or64 _ _) rfl rfl rfl) rfl rfl ?_
 refine lo rfl (pr_ixa (j := 2) (m' := 2) sd (by omega) Try.underlying141 (z := 1) kr rfl rfl rfl) rfl rfl ?_
 refine lq rfl (ld_blk 0 rfl rfl Try.underlying30 rfl rfl rfl) rfl rfl ?_
 refine lo rfl (pr_shift (sh_shr64 (0#64 + ((h77 + d80) + d85)) _ 2) rfl rfl rfl rfl) rfl rfl ?_
 refine lo rfl (pr_build (qs := [(0, (b64 (((s70 &&& ~~~3#64) >>> 2) ||| (s84 <<< 62)))), (1, (b64 ((s84 >>> 2) ||| ((0#64 + ((h77 + d80) + d85)) <<< 62)))), (2, (b64 ((0#64 + ((h77 + d80) + d85)) >>> 2)))]) (v := .agg [(b64 (((s70 &&& ~~~3#64) >>> 2) ||| (s84 <<< 62))), (b64 ((s84 >>> 2) ||| ((0#64 + ((h77 + d80) + d85)) <<< 62))), (b64 ((0#64 + ((h77 + d80) + d85)) >>> 2))].toArray) (fun _ => by kernel_rfl) rfl rfl) rfl rfl ?_
 refine L_op rfl (op_alloc (z := .agg [(b64 (0#64)), (b64 (0#64)), (b64 (0#64))].toArray) (zs := [(b64 (0#64)), (b64 (0#64)), (b64 (0#64))]) kr rfl rfl rfl rfl (fun g91 => ?_))
 refine L_op rfl (op_sto (n := 3) (vs := [(b64 (((s70 &&& ~~~3#64) >>> 2) ||| (s84 <<< 62))), (b64 ((s84 >>> 2) ||| ((0#64 + ((h77 + d80) + d85)) <<< 62))), (b64 ((0#64 + ((h77 + d80) + d85)) >>> 2))]) 0 rfl rfl kr (by simp [Value.oneCell']) kr kr rfl rfl rfl rfl ?_)
 refine L_nil ?_
 refine T_seq ?_
 refine T_regD [.blk g91 141 [(b64 (((s70 &&& ~~~3#64) >>> 2) ||| (s84 <<< 62))), (b64 ((s84 >>> 2) ||| ((0#64 + ((h77 + d80) + d85)) <<< 62))), (b64 ((0#64 + ((h77 + d80) + d85)) >>> 2))], .blk g90 141 [(b64 (s70 &&& ~~~3#64)), (b64 s84), (b64 (0#64 + ((h77 + d80) + d85)))], .blk g89 141 [(b64 s14), (b64 s42), (b64 (s70 &&& 3#64))], .blk g4 154 [(b64 s14), (b64 s42), (b64 s70), (b64 s84), (b64 (0#64 + ((h77 + d80) + d85)))], .blk g3 141 [(b64 (0#64)), (b64 (0#64)), (b64 (0#64))], .blk g2 31 [(b64 r0), (b64 r1)], .blk g1 141 [(b64 a0), (b64 a1), (b64 a2)]] 15 16 #[false, false, false, false, false, false, false, false, false, false, false, false, false, false, false, false] hF kr kr ?_
 refine D_pure (i := 1) [0, 1, 2, 3, 4, 5, 6] rfl kr rfl (pr_ixa (j := 0) (m' := 0) sd (by omega) Try.underlying141 (z := 1) kr rfl rfl rfl) (.inr rfl) rfl rfl ?_
 refine D_pure (i := 3) [0, 1, 2, 3, 4, 5, 6] rfl kr rfl (pr_ixa (j := 1) (m' := 1) sd (by omega) Try.underlying141 (z := 1) kr rfl rfl rfl) (.inr rfl) rfl rfl ?_
 refine D_pure (i := 5) [0, 1, 2, 3, 4, 5, 6] rfl kr rfl (pr_ixa (j := 2) (m' := 2) sd (by omega) Try.underlying141 (z := 1) kr rfl rfl rfl) (.inr rfl) rfl rfl ?_
 refine D_pure (i := 8) [0, 1, 2, 3, 4, 5, 6] rfl kr rfl (pr_ixa (j := 0) (m' := 0) sd (by omega) Try.underlying141 (z := 1) kr rfl rfl rfl) (.inr rfl) rfl rfl ?_
 refine D_pure (i := 10) [0, 1, 2, 3, 4, 5, 6] rfl kr rfl (pr_ixa (j := 1) (m' := 1) sd (by omega) Try.underlying141 (z := 1) kr rfl rfl rfl) (.inr rfl) rfl rfl ?_
 refine D_pure (i := 12) [0, 1, 2, 3, 4, 5, 6] rfl kr rfl (pr_ixa (j := 2) (m' := 2) sd (by omega) Try.underlying141 (z := 1) kr rfl rfl rfl) (.inr rfl) rfl rfl ?_
 refine D_take (i := 0) [0, 1, 2, 3, 4, 5, 6] rfl kr rfl (ld_agg (ds := [(b64 s14), (b64 s42), (b64 (s70 &&& 3#64))]) 2 rfl agg_all Try.underlying141 rfl kr rfl rfl) rfl rfl rfl ?_
 refine D_take (i := 2) [0, 1, 2, 3, 4, 5, 6] rfl kr rfl (ld_blk 1 rfl rfl Try.underlying30 rfl rfl rfl) rfl rfl rfl ?_
 refine D_take (i := 4) [0, 1, 2, 3, 4, 5, 6] rfl kr rfl (ld_blk 1 rfl rfl Try.underlying30 rfl rfl rfl) rfl rfl rfl ?_
 refine D_take (i := 6) [0, 1, 2, 3, 4, 5, 6] rfl kr rfl (ld_blk 1 rfl rfl Try.underlying30 rfl rfl rfl) rfl rfl rfl ?_
 refine D_take (i := 9) [0, 1, 2, 3, 4, 5, 6] rfl kr rfl (ld_blk 0 rfl rfl Try.underlying30 rfl rfl rfl) rfl rfl rfl ?_
 refine D_take (i := 11) [0, 1, 2, 3, 4, 5, 6] rfl kr rfl (ld_blk 0 rfl rfl Try.underlying30 rfl rfl rfl) rfl rfl rfl ?_
 refine D_take (i := 13) [0, 1, 2, 3, 4, 5, 6] rfl kr rfl (ld_blk 0 rfl rfl Try.underlying30 rfl rfl rfl) rfl rfl rfl ?_
 refine D_one 7 _ rfl kr rfl (op_cn (fun w hw => plus_f s14 s42 (s70 &&& 3#64) (s70 &&& ~~~3#64) s84 (0#64 + ((h77 + d80) + d85)) w (hok_nil w) (side_a s70 (top_zero (times_bits (mac_bits q6 ha_11 ha_16) (mac_bits q20 ha_25 ha_30) (mac_bits q34 ha_39 ha_44) (mac_bits q48 ha_53 ha_58) (mac_bits q62 ha_67 ha_72) (mac_bits q76 ha_81 ha_86)) (Nat.mul_lt_mul'' ha hr)))) (enters_of Try.func92 kr rfl) rfl rfl rfl rfl rfl (fun t92 q93 => ?_))
 obtain ⟨b0_94, b1_95, b2_96⟩ := t92
 have q93 : v3 b0_94 b1_95 b2_96 = v3 s14 s42 (s70 &&& 3#64) + v3 (s70 &&& ~~~3#64) s84 (0#64 + ((h77 + d80) + d85)) := q93
 refine D_on [0, 1, 2, 3, 4, 5, 6] rfl ?_
 refine D_one 14 _ rfl kr rfl (op_cn (fun w hw => plus_f b0_94 b1_95 b2_96 (((s70 &&& ~~~3#64) >>> 2) ||| (s84 <<< 62)) ((s84 >>> 2) ||| ((0#64 + ((h77 + d80) + d85)) <<< 62)) ((0#64 + ((h77 + d80) + d85)) >>> 2) w (hok_nil w) (side_b q93 (top_zero (times_bits (mac_bits q6 ha_11 ha_16) (mac_bits q20 ha_25 ha_30) (mac_bits q34 ha_39 ha_44) (mac_bits q48 ha_53 ha_58) (mac_bits q62 ha_67 ha_72) (mac_bits q76 ha_81 ha_86)) (Nat.mul_lt_mul'' ha hr)))) (enters_of Try.func92 kr rfl) rfl rfl rfl rfl rfl (fun t97 q98 => ?_))
 obtain ⟨b0_99, b1_100, b2_101⟩ := t97
 have q98 : v3 b0_99 b1_100 b2_101 = v3 b0_94 b1_95 b2_96 + v3 (((s70 &&& ~~~3#64) >>> 2) ||| (s84 <<< 62)) ((s84 >>> 2) ||| ((0#64 + ((h77 + d80) + d85)) <<< 62)) ((0#64 + ((h77 + d80) + d85)) >>> 2) := q98
 refine D_on [0, 1, 2, 3, 4, 5, 6] rfl ?_
 refine D_one 15 _ rfl kr rfl (op_sto (n := 3) (vs := [(b64 b0_99), (b64 b1_100), (b64 b2_101)]) 4 rfl rfl kr (by simp [Value.oneCell']) kr kr rfl rfl rfl rfl ?_)
 refine D_past kr ?_
 refine D_done kr ?_
 refine T_ret ?_
 exact T_fin (b0_99, b1_100, b2_101) (times_fin (times_bits (mac_bits q6 ha_11 ha_16) (mac_bits q20 ha_25 ha_30) (mac_bits q34 ha_39 ha_44) (mac_bits q48 ha_53 ha_58) (mac_bits q62 ha_67 ha_72) (mac_bits q76 ha_81 ha_86)) (Nat.mul_lt_mul'' ha hr) q93 q98) (resb 0 rfl rfl rfl Try.underlying141 rfl kr) [] ⟨by decide, rfl⟩ rfl
end Go.Proofs.Ytlplpmkdebemnaa
