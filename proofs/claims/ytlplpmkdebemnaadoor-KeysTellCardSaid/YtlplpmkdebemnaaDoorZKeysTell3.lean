/- Walks by facts, part 3: what the functions that the law reaches answer. No conditions but lengths. -/
import Derived.Test.YtlplpmkdebemnaaDoorZKeysTell2
import Derived.Lib.ConvBytes
import Derived.ArgAppend
import Derived.MapKept
import Derived.Lib.ItoaMem
import Derived.WalkKit
import Derived.BigCall
import Derived.BigGuard
import Derived.Test.YtlplpmkdebemnaaDoorRows
import Derived.ChangeSame
import Derived.ChangeVars
import Derived.LaidLaws
import Derived.LaidHandle
import Derived.Lib.LaidTab
import Derived.Test.YtlplpmkdebemnaaDoorProg
import Derived.Outline
import Derived.LoopTactic
import Derived.KernelRfl
namespace Go.Proofs.YtlplpmkdebemnaaDoor.Fw
set_option linter.unusedVariables false
set_option linter.unusedSimpArgs false
open Go.RowKit Bv
theorem splice_rcs {xs : List Rc} {j : Nat} {r : Rc} (h : j < xs.length) : (rcs xs).take (j * 4) ++ r.cs ++ (rcs xs).drop (j * 4 + r.cs.length) = rcs (xs.set j r) := by
  rw [List.set_eq_take_append_cons_drop, if_pos h, rcs_app, rcs, rcs_take, show j * 4 + r.cs.length = (j + 1) * 4 from by show j * 4 + 4 = _; omega, rcs_drop, List.append_assoc]
section
variable {P : Program} {X : Cx} {s : List (Nat × Value)} {h : List HA} {o : Oper} {K K0 J : Jd}
/-- A record is stored among some. -/
theorem op_storeR {ty e : TypeId} {x y : Operand} {g j : Nat} {xs : List Rc} {r : Rc} (i : Nat) (hi : h[i]? = some (.blk g e (rcs xs))) (hz : (P.info? ty).map (·.size) = some 4) (hj : j < xs.length)
    (ho : o.op = .store ty x y) (hx : ev s x = some (.pointer (some ⟨g, j * 4, none⟩))) (hy : ev s y = some (.agg r.cs.toArray)) (hd : o.dst = none) (hh : Tr X s (.blk g e (rcs (xs.set j r)) :: h.eraseIdx i) K) : Tr X s h (Op P o K K0) :=
  op_store (v := .agg r.cs.toArray) (vs := r.cs) i hi rfl hz (by have := rcs_one [r]; simpa [rcs] using this) (by rw [rcs_len]; show j * 4 + 4 ≤ _; omega) (splice_rcs hj) ho hx hy hd hh
theorem op_app_roomR {d : Nat} {t e : TypeId} {x y : Operand} {g n m c k : Nat} {A : Option Addr} {xs ys zs : List Rc} (i : Nat) (hi : h[i]? = some (.blk g e (rcs xs))) (ht : P.underlying t = some (.slice e)) (hz : (P.info? e).map (·.size) = some 4)
    (hs : Src h A 4 m c (rcs ys)) (hm : n + m ≤ k) (hl : k ≤ xs.length) (hc : xs.take n ++ ys ++ xs.drop (n + m) = zs)
    (ho : o.op = .call { callee := .builtin .append, args := #[x, y], argTypes := #[t, t] }) (hx : ev s x = some (.slice (some ⟨g, 0, none⟩) n k)) (hy : ev s y = some (.slice A m c)) (hd : o.dst = some d) (hN : Nat.blt d X.N = true)
    (hh : Tr X ((d, .slice (some ⟨g, 0, none⟩) (n + m) k) :: s) (.blk g e (rcs zs) :: h.eraseIdx i) K) : Tr X s h (Op P o K K0) := fun a w st => by
  have h1 := rcs_one ys
  have hcs : (rcs xs).take (n * 4) ++ rcs ys ++ (rcs xs).drop (n * 4 + m * 4) = rcs zs := by rw [rcs_take, ← Nat.add_mul, rcs_drop, ← rcs_app, ← rcs_app, hc]
  have hb : w.heap[g]? = some (.cells (rcs xs).toArray e (0, 0)) := st.ok _ (List.mem_of_getElem? hi)
  have hrd := (hs w st.ok).1
  have hnl : (rcs ys).length = m * 4 := hrd.len
  have hyl : ys.length = m := by rw [rcs_len] at hnl; omega
  obtain ⟨ti, hi1, hi2⟩ := Option.map_eq_some_iff.1 hz
  cases A with
  | none =>
    have h0 := hrd.isn rfl; have h2 := hrd.le
    obtain rfl : m = 0 := by omega
    obtain rfl : c = 0 := h0
    obtain rfl : ys = [] := List.eq_nil_of_length_eq_zero hyl
    have hc2 : xs = zs := by rw [← hc]; simp
    subst hc2
    have hr : (execOp a.eval o).run P w = .ok (.value (.slice (some ⟨g, 0, none⟩) (n + 0) k)) w := by
      have hkn : n ≤ k := by omega
      unfold execOp
      rw [ho]
      simp [resolve, invoke, builtin, st.ag _ _ hx, st.ag _ _ hy, Builtin.append_, run_underlying ht, sizeOf, typeInfo, hi1, Builtin.lenOf, Builtin.firstCells, hkn, hi2, storeCells, rcs]
    refine op_val hr ?_
    rw [hd]
    exact hh _ _ ((st.perm (perm_erase h i _ hi)).put (Nat.blt_eq.mp hN) _)
  | some ad =>
  have hr : (execOp a.eval o).run P w = .ok (.value (.slice (some ⟨g, 0, none⟩) (n + m) k)) (w.setRow g (rcs zs).toArray) := by
    have := run_append_room (P := P) w t o.type e ti ht hi1 g n k (rcs xs).toArray hb ad m c (rcs ys) (by rw [hi2]; exact hnl) (fun j u hu => hrd.cells ad rfl j u hu) h1 hm (by rw [hi2, hnl]; simp [rcs_len]; omega)
    rw [hi2, hnl] at this
    simp only at this
    rw [hcs] at this
    unfold execOp
    rw [ho]
    simp [resolve, invoke, builtin, st.ag _ _ hx, st.ag _ _ hy, this]
  refine op_val hr ?_
  rw [hd]
  refine hh _ _ (st.swapv [.blk g e (rcs xs)] (h.eraseIdx i) [.blk g e (rcs zs)] (perm_erase h i _ hi) hN _ ⟨⟨rfl, rfl, rfl, by simp⟩, fun k _ hk => setRow_other w g k _ (fun e => hk (by simp [HA.ids, e]))⟩ ?_ ?_ ?_ ?_)
  · intro x hx; rw [List.mem_singleton] at hx; subst hx; exact setRow_heap w g _ _ e _ hb
  · intro x hx k hk; rw [List.mem_singleton] at hx; subst hx; exact .inl (by simpa [HA.ids, HA.frs] using hk)
  · simp [HA.ids]
  · intro x hx r hr; rw [List.mem_singleton] at hx; subst hx; cases hr
end
end Go.Proofs.YtlplpmkdebemnaaDoor.Fw
namespace Go.Proofs.YtlplpmkdebemnaaDoor.Fw
set_option linter.unusedVariables false
set_option linter.unusedSimpArgs false
open Go.RowKit Bv
/-- The cells of a block that holds a text of n bytes in a room of c; its mark lies behind them. -/
structure Txt (cur : List Value) (n c : Nat) (fr : Nat × Nat) (zs : List (BitVec 8)) : Prop where
  len : cur.length = c
  le : n ≤ c
  most : c ≤ maxLen
  take : cur.take n = zs.map b8
  mark : fr = (0, 0) ∨ c ≤ fr.1
section
variable {P : Program} {X : Cx} {s : List (Nat × Value)} {h : List HA} {o : Oper} {K K0 J : Jd}
theorem sob_size (xs : List (BitVec 8)) : (sob xs).size = xs.length := by simp [sob, ByteArray.size]
/-- Bytes made of a string. -/
theorem op_s2b {d : Nat} {src t e : TypeId} {x : Operand} {xs : List (BitVec 8)} {u : TypeDesc} (hs : P.underlying src = some u) (ht : P.underlying t = some (.slice e)) (he : P.underlying e = some (.int .u8)) (hl : xs.length ≤ 1000000)
    (ho : o.op = .convert src t x) (hx : ev s x = some (.string (sob xs))) (hd : o.dst = some d) (hN : Nat.blt d X.N = true)
    (hh : ∀ g c cur fr, Txt cur xs.length c fr xs → Tr X ((d, .slice (some ⟨g, 0, none⟩) xs.length c) :: s) (.obj g (.cells cur.toArray e fr) :: h) K) : Tr X s h (Op P o K K0) := fun a w st => by
  have hr : (execOp a.eval o).run P w = .ok (.value (.slice (some ⟨w.heap.size, 0, none⟩) xs.length (grownCap w xs.length 0 e))) (Lib.bytesWorld w e (sob xs)) := by
    unfold execOp; rw [ho]
    simp only [st.ag _ _ hx]
    rw [Sem.run_bind, Lib.run_convert_string_bytes w src t e _ hs ht he, sob_size]; rfl
  have hge := grownCap_ge w xs.length 0 e
  have hle := grownCap_le_maxLen w xs.length 0 e (by unfold maxLen; omega)
  have hsz : (Lib.bytesCells w e (sob xs)).size = grownCap w xs.length 0 e := by
    unfold Lib.bytesCells
    rw [sob_size]; simp [sob]; omega
  have hT : Txt (Lib.bytesCells w e (sob xs)).toList xs.length (grownCap w xs.length 0 e) ((Lib.bytesCells w e (sob xs)).size, (Lib.bytesCells w e (sob xs)).size + 1) xs := by
    refine ⟨by simpa using hsz, hge, hle, ?_, .inr (by rw [hsz]; exact Nat.le_refl _)⟩
    unfold Lib.bytesCells
    rw [Array.toList_append, List.take_append_of_le_length (by simp [sob]), List.take_of_length_le (by simp [sob])]
    simp only [sob, Array.toList_map, List.toList_toArray, List.map_map]
    apply List.map_congr_left
    intro b hb
    rfl
  refine op_val hr ?_
  rw [hd]
  refine hh _ _ _ _ hT _ _ (st.swapv [] h [.obj w.heap.size (.cells (Lib.bytesCells w e (sob xs)).toList.toArray e ((Lib.bytesCells w e (sob xs)).size, (Lib.bytesCells w e (sob xs)).size + 1))] (List.Perm.refl _) hN _ ⟨⟨rfl, rfl, rfl, by rw [Lib.bytesWorld_size]; omega⟩, fun k hk _ => Lib.bytesWorld_at_old w e _ k hk⟩ ?_ ?_ ?_ ?_)
  · intro x hx; rw [List.mem_singleton] at hx; subst hx
    show (Lib.bytesWorld w e (sob xs)).heap[w.heap.size]? = _
    rw [Lib.bytesWorld_at_new]
  · intro x hx k hk; rw [List.mem_singleton] at hx; subst hx; simp [HA.frs] at hk; subst hk; exact .inr (Nat.le_refl _)
  · simp [HA.ids]
  · intro x hx r hr; rw [List.mem_singleton] at hx; subst hx; cases hr
/-- Such a text is given up: it is read from now on. -/
theorem T_objold (i : Nat) {g n c : Nat} {e : TypeId} {cur : List Value} {fr : Nat × Nat} {zs : List (BitVec 8)} (hi : h[i]? = some (.obj g (.cells cur.toArray e fr))) (ht : Txt cur n c fr zs) (hz : zs.length = n) (hh : Tr X s (.old (some ⟨g, 0, none⟩) 1 n c (zs.map b8) :: h.eraseIdx i) J) : Tr X s h J := fun a w st => by
  have hx : w.heap[g]? = some (.cells cur.toArray e fr) := st.ok _ (List.mem_of_getElem? hi)
  have hlt := (Array.getElem?_eq_some_iff.1 hx).1
  have hok : (HA.old (some ⟨g, 0, none⟩) 1 n c (zs.map b8)).ok w := by
    refine ⟨⟨by simp [hz], ht.le, by have := ht.most; unfold maxLen at this; omega, (fun h => by cases h), fun ad ea j v hj => ?_⟩, fun ad ea _ => by cases ea; exact hlt⟩
    cases ea
    rw [← ht.take, List.getElem?_take] at hj
    split at hj
    · rw [Addr.add_lit]; simp only [World.cell?, hx]; simpa using hj
    · cases hj
  refine hh a w (st.swap [.obj g (.cells cur.toArray e fr)] (h.eraseIdx i) [_] (perm_erase h i _ hi) st.sz st.df st.sl (Keep.refl _ _) ?_ ?_ ?_ ?_)
  · intro x hx; rw [List.mem_singleton] at hx; subst hx; exact hok
  · intro x hx k hk; rw [List.mem_singleton] at hx; subst hx
    refine .inl ?_
    have : k = g := by
      obtain ⟨_, ad, e1, e2⟩ := mem_rid.1 hk
      cases e1; exact e2.symm
    simp [HA.ids, this]
  · simp [HA.ids]
  · intro x hx r hr; rw [List.mem_singleton] at hx; subst hx
    exact ⟨hr, fun y hy => by rw [List.mem_singleton] at hy; subst hy; simp [HA.ids]⟩
/-- Such a text is read. -/
theorem src_txt (i : Nat) {g n c : Nat} {e : TypeId} {cur : List Value} {fr : Nat × Nat} {zs : List (BitVec 8)} (hi : h[i]? = some (.obj g (.cells cur.toArray e fr))) (ht : Txt cur n c fr zs) : Src h (some ⟨g, 0, none⟩) 1 n c (zs.map b8) := fun w hw => by
  have hx : w.heap[g]? = some (.cells cur.toArray e fr) := hw _ (List.mem_of_getElem? hi)
  have hlt := (Array.getElem?_eq_some_iff.1 hx).1
  have hz : zs.length = n := by
    have := congrArg List.length ht.take
    rw [List.length_take, ht.len, List.length_map] at this
    have := ht.le; omega
  refine ⟨⟨by simp [hz], ht.le, by have := ht.most; unfold maxLen at this; omega, (fun h => by cases h), fun ad ea j v hj => ?_⟩, fun ad ea _ => by cases ea; exact hlt⟩
  cases ea
  rw [← ht.take, List.getElem?_take] at hj
  split at hj
  · rw [Addr.add_lit]; simp only [World.cell?, hx]; simpa using hj
  · cases hj
theorem txt_as {cur : List Value} {n n' c : Nat} {fr : Nat × Nat} {zs zs' : List (BitVec 8)} (h : Txt cur n c fr zs) (hn : n = n') (hz : zs = zs') : Txt cur n' c fr zs' := hn ▸ hz ▸ h
/-- Cells set one behind the other. -/
def sets : List Value → Nat → List Value → List Value
  | cur, _, [] => cur
  | cur, q, v :: r => sets (cur.set q v) (q + 1) r
theorem sets_len : ∀ (vs : List Value) (cur : List Value) (q : Nat), (sets cur q vs).length = cur.length
  | [], _, _ => rfl
  | v :: r, cur, q => by rw [sets, sets_len r]; simp
theorem sets_take : ∀ (vs : List Value) (cur : List Value) (q : Nat), q + vs.length ≤ cur.length → (sets cur q vs).take (q + vs.length) = cur.take q ++ vs
  | [], cur, q, _ => by simp [sets]
  | v :: r, cur, q, h => by
    rw [List.length_cons] at h
    have h2 := sets_take r (cur.set q v) (q + 1) (by simp; omega)
    rw [sets, List.length_cons, show q + (r.length + 1) = q + 1 + r.length by omega, h2, List.take_succ_eq_append_getElem (by simp; omega)]
    simp only [List.getElem_set_self, List.append_assoc, List.singleton_append]
    congr 1
    apply List.ext_getElem?
    intro k
    by_cases hk : k < q
    · rw [List.getElem?_take, List.getElem?_take, if_pos hk, if_pos hk, List.getElem?_set_ne (by omega)]
    · rw [List.getElem?_take, List.getElem?_take, if_neg hk, if_neg hk]
theorem heap_setCells_self (g : Nat) : ∀ (vs : List Value) (q : Nat) (w : World) (cur : List Value) (e : TypeId) (fr : Nat × Nat), w.heap[g]? = some (.cells cur.toArray e fr) → (w.setCells g q vs).heap[g]? = some (.cells (sets cur q vs).toArray e fr)
  | [], _, _, _, _, _, h => h
  | v :: r, q, w, cur, e, fr, h => by
    refine heap_setCells_self g r (q + 1) _ (cur.set q v) e fr ?_
    simp only [World.setCell, Array.getElem?_modify, if_pos, h, Option.map_some, Option.isSome_none, Bool.false_eq_true, if_false]
    simp
theorem size_setCells' (b : Nat) : ∀ (vs : List Value) (q : Nat) (w : World), (w.setCells b q vs).heap.size = w.heap.size
  | [], _, _ => rfl
  | v :: r, q, w => by rw [World.setCells, size_setCells' b r]; simp [World.setCell]
theorem heap_setCells_else (g : Nat) : ∀ (vs : List Value) (q : Nat) (w : World) (k : Nat), k ≠ g → (w.setCells g q vs).heap[k]? = w.heap[k]?
  | [], _, _, _, _ => rfl
  | v :: r, q, w, k, h => by rw [World.setCells, heap_setCells_else g r (q + 1) _ k h]; exact Below.heap_setCell w ⟨g, q, none⟩ v k h
theorem same_setCells (g : Nat) : ∀ (vs : List Value) (q : Nat) (w : World), (w.setCells g q vs).os = w.os ∧ (w.setCells g q vs).tape = w.tape ∧ (w.setCells g q vs).output = w.output
  | [], _, _ => ⟨rfl, rfl, rfl⟩
  | v :: r, q, w => by rw [World.setCells]; exact same_setCells g r (q + 1) _
theorem Txt.zlen {cur : List Value} {n c : Nat} {fr : Nat × Nat} {zs : List (BitVec 8)} (h : Txt cur n c fr zs) : zs.length = n := by
  have := congrArg List.length h.take
  rw [List.length_take, h.len, List.length_map] at this
  have := h.le; omega
/-- append onto a text that may bear a mark: in its place, or in a new block. -/
theorem op_app_obj {d : Nat} {t e : TypeId} {x y : Operand} {A : Option Addr} {g n m c c2 : Nat} {cur : List Value} {fr : Nat × Nat} {zs news : List (BitVec 8)} (i : Nat) (hi : h[i]? = some (.obj g (.cells cur.toArray e fr))) (hT : Txt cur n c fr zs) (ht : P.underlying t = some (.slice e)) (hin : (P.info? e).map (fun i => (i.zero, i.size, i.bytes)) = some (some (.int .u8 0), 1, 1))
    (hs : Src h A 1 m c2 (news.map b8)) (hb : n + m ≤ 100000000000000)
    (ho : o.op = .call { callee := .builtin .append, args := #[x, y], argTypes := #[t, t] }) (hx : ev s x = some (.slice (some ⟨g, 0, none⟩) n c)) (hy : ev s y = some (.slice A m c2)) (hd : o.dst = some d) (hN : Nat.blt d X.N = true)
    (hh : ∀ g' c' cur' fr', Txt cur' (n + m) c' fr' (zs ++ news) → Tr X ((d, .slice (some ⟨g', 0, none⟩) (n + m) c') :: s) (.obj g' (.cells cur'.toArray e fr') :: h.eraseIdx i) K) : Tr X s h (Op P o K K0) := fun a w st => by
  have hg : w.heap[g]? = some (.cells cur.toArray e fr) := st.ok _ (List.mem_of_getElem? hi)
  have hrd := (hs w st.ok).1
  have hnl : (news.map b8).length = m := by have := hrd.len; simpa using this
  have hnl2 : news.length = m := by simpa using hnl
  have hzl := hT.zlen
  have hle := hT.le
  have hcl := hT.len
  obtain ⟨ti, hi1, hi2⟩ := Option.map_eq_some_iff.1 hin
  simp only [Prod.mk.injEq] at hi2
  obtain ⟨hz, hsize, hby⟩ := hi2
  have done : ∀ (g' c' : Nat) (cur' : List Value) (fr' : Nat × Nat) (w' : World), Txt cur' (n + m) c' fr' (zs ++ news) → w'.heap[g']? = some (.cells cur'.toArray e fr') → (g' = g ∨ w.heap.size ≤ g') → Keep [g] w w' → K (a.put o.dst (.slice (some ⟨g', 0, none⟩) (n + m) c')) w' := by
    intro g' c' cur' fr' w' hT' hg' hor hk
    rw [hd]
    refine hh g' c' cur' fr' hT' _ _ (st.swapv [.obj g (.cells cur.toArray e fr)] (h.eraseIdx i) [.obj g' (.cells cur'.toArray e fr')] (perm_erase h i _ hi) hN _ (by simpa [HA.ids] using hk) ?_ ?_ ?_ ?_)
    · intro x hx; rw [List.mem_singleton] at hx; subst hx; exact hg'
    · intro x hx k hk; rw [List.mem_singleton] at hx; subst hx
      have : k = g' := by simpa [HA.frs] using hk
      subst this
      rcases hor with rfl | h1
      · exact .inl (by simp [HA.ids])
      · exact .inr h1
    · simp [HA.ids]
    · intro x hx r hr; rw [List.mem_singleton] at hx; subst hx; cases hr
  cases A with
  | none =>
    have h0 := hrd.isn rfl; have h2 := hrd.le
    obtain rfl : m = 0 := by omega
    obtain rfl : c2 = 0 := h0
    obtain rfl : news = [] := List.eq_nil_of_length_eq_zero hnl2
    have hr : (execOp a.eval o).run P w = .ok (.value (.slice (some ⟨g, 0, none⟩) (n + 0) c)) w := by
      unfold execOp
      rw [ho]
      simp [resolve, invoke, builtin, st.ag _ _ hx, st.ag _ _ hy, Builtin.append_, run_underlying ht, sizeOf, typeInfo, hi1, Builtin.lenOf, Builtin.firstCells, hle, hsize, storeCells]
    exact op_val hr (done g c cur fr w (by simpa using hT) hg (.inl rfl) (Keep.refl _ _))
  | some ad =>
  by_cases hroom : n + m ≤ c
  · have hcell : ∀ j, j < (news.map b8).length → (w.cell? ⟨g, 0 + n * ti.size + j, none⟩).isSome = true := by
      intro j hj
      simp only [World.cell?, hg, Option.isSome_none, Bool.false_eq_true, if_false, hsize]
      rw [List.getElem?_toArray, List.getElem?_eq_getElem (by omega)]; rfl
    have hfz : ∀ j, j < (news.map b8).length → w.frozen? ⟨g, 0 + n * ti.size + j, none⟩ = false := by
      intro j hj
      obtain ⟨lo, hi'⟩ := fr
      simp only [World.frozen?, hg, hsize]
      rcases hT.mark with q | q
      · cases q; simp
      · have : ¬ lo ≤ n + j := by simp only at q; omega
        simp [this]
    have h9 := run_append_room_cells (P := P) w t o.type e ti ht hi1 g 0 n c ad m c2 (news.map b8) (by rw [hsize, hnl, Nat.mul_one]) (fun j u hu => hrd.cells ad rfl j u hu) (all8_one news) hroom hcell hfz
    rw [hsize, Nat.zero_add, Nat.mul_one] at h9
    have hr : (execOp a.eval o).run P w = .ok (.value (.slice (some ⟨g, 0, none⟩) (n + m) c)) (w.setCells g n (news.map b8)) := by
      unfold execOp
      rw [ho]
      simp [resolve, invoke, builtin, st.ag _ _ hx, st.ag _ _ hy, h9]
    obtain ⟨s1, s2, s3⟩ := same_setCells g (news.map b8) n w
    refine op_val hr (done g c (sets cur n (news.map b8)) fr _ ⟨by rw [sets_len, hcl], hroom, hT.most, ?_, hT.mark⟩ (heap_setCells_self g _ n w cur e fr hg) (.inl rfl) ⟨⟨s1, s2, s3, by rw [size_setCells']; exact Nat.le_refl _⟩, fun k _ hk => heap_setCells_else g _ n w k (by simpa using hk)⟩)
    have := sets_take (news.map b8) cur n (by omega)
    rw [hnl] at this
    rw [this, hT.take, List.map_append]
  · have hgrow := grownCap_ge w (n + m) c e
    have hmost := grownCap_le_maxLen w (n + m) c e (by unfold maxLen; omega)
    have h9 := run_append_grow (P := P) w t o.type e ti _ ht hi1 hz ⟨g, 0, none⟩ n c (zs.map b8) (by rw [hsize, List.length_map, hzl, Nat.mul_one]) (fun j v hj => by
      rw [← hT.take, List.getElem?_take] at hj
      split at hj
      · rw [Addr.add_lit]; simp only [World.cell?, hg]; simpa using hj
      · cases hj) ad m c2 (news.map b8) (by rw [hsize, hnl, Nat.mul_one]) (fun j u hu => hrd.cells ad rfl j u hu) (by omega) (by omega) (by rw [hby]; exact growslice_fits (by omega) (by omega))
    have hr : (execOp a.eval o).run P w = .ok (.value (.slice (some ⟨w.heap.size, 0, none⟩) (n + m) (grownCap w (n + m) c e))) (w.drew.alloc (.cells ((zs.map b8).toArray ++ (news.map b8).toArray ++ Builtin.zeroCells (Value.int .u8 0).cells (grownCap w (n + m) c e - (n + m))) e)) := by
      unfold execOp
      rw [ho]
      simp [resolve, invoke, builtin, st.ag _ _ hx, st.ag _ _ hy, h9]
    have hzc : (Builtin.zeroCells (Value.int .u8 0).cells (grownCap w (n + m) c e - (n + m))).size = grownCap w (n + m) c e - (n + m) := by
      simp [Builtin.zeroCells, Value.cells]
    refine op_val hr (done w.heap.size _ ((zs.map b8).toArray ++ (news.map b8).toArray ++ Builtin.zeroCells (Value.int .u8 0).cells (grownCap w (n + m) c e - (n + m))).toList (0, 0) _ ⟨?_, hgrow, hmost, ?_, .inl rfl⟩ ?_ (.inr (Nat.le_refl _)) ⟨⟨rfl, rfl, rfl, by rw [World.size_alloc]; exact Nat.le_succ _⟩, fun k hk _ => ?_⟩)
    · rw [Array.length_toList, Array.size_append, hzc]; simp [hzl, hnl2]; omega
    · rw [Array.toList_append, List.take_append_of_le_length (by simp [hzl, hnl2]), List.take_of_length_le (by simp [hzl, hnl2])]; simp
    · have := heap_alloc_new w.drew (.cells ((zs.map b8).toArray ++ (news.map b8).toArray ++ Builtin.zeroCells (Value.int .u8 0).cells (grownCap w (n + m) c e - (n + m))) e)
      rw [Array.toArray_toList]
      exact this
    · exact Below.heap_alloc w.drew _ _ hk
end
end Go.Proofs.YtlplpmkdebemnaaDoor.Fw
namespace Go.Proofs.YtlplpmkdebemnaaDoor.Fw
set_option linter.unusedVariables false
set_option linter.unusedSimpArgs false
open Go.RowKit Bv
theorem own_cs {h : List HA} {w : World} (hh : HOK h w) (hb : h.all HA.outB = true) (hr : ∀ x ∈ h, x.rids = []) (hn : (h.flatMap HA.ids).Nodup) : Own (h.flatMap HA.ids) h w := by
  refine ⟨fun y hy => ?_, hh, fun y hy k hk => ?_, hn, fun y hy z hz r hrr => ?_⟩
  · have := List.all_eq_true.1 hb y hy
    cases y <;> first | exact ⟨rfl, rfl⟩ | (cases this; done)
  · have h1 := List.all_eq_true.1 hb y hy
    have h2 := hr y hy
    refine List.mem_flatMap.2 ⟨y, hy, ?_⟩
    cases y <;> first | exact hk | (cases h1; done) | (simp only [HA.rids] at h2; simp only [HA.frs] at hk; rw [h2] at hk; cases hk)
  · rw [hr y hy] at hrr; cases hrr
/-- A block of cells and another object stand apart. -/
theorem own_bo {w : World} {g gm : Nat} {e : TypeId} {cs : List Value} {es : Array MapEntry} {cl : Nat} (hh : HOK [.blk g e cs, .obj gm (.map es cl)] w) : Own [g, gm] [.blk g e cs, .obj gm (.map es cl)] w := by
  refine own_cs hh rfl (fun x hx => ?_) ?_
  · rcases List.mem_cons.1 hx with rfl | hx
    · rfl
    · rw [List.mem_singleton] at hx; subst hx; rfl
  · have h1 : w.heap[g]? = some (.cells cs.toArray e (0, 0)) := hh (.blk g e cs) (by simp)
    have h2 : w.heap[gm]? = some (.map es cl) := hh (.obj gm (.map es cl)) (by simp)
    simp only [List.flatMap_cons, List.flatMap_nil, HA.ids, List.append_nil, List.singleton_append, List.nodup_cons, List.mem_singleton, List.not_mem_nil, not_false_eq_true, List.nodup_nil, and_true]
    intro e; subst e; rw [h1] at h2; cases h2
def rdN : HA → Bool
  | .rd _ z n _ _ => Nat.blt 0 n && Nat.blt 0 z
  | _ => false
/-- A map of the call's own, and rows that are read. -/
theorem own_m {w : World} {gm : Nat} {es : Array MapEntry} {cl : Nat} {rs : List HA} (hh : HOK (.obj gm (.map es cl) :: rs) w) (hb : rs.all rdN = true) : Own [gm] (.obj gm (.map es cl) :: rs) w := by
  have key : ∀ x ∈ rs, ∃ A z n c cs, x = .rd A z n c cs ∧ 0 < n ∧ 0 < z := fun x hx => by
    have := List.all_eq_true.1 hb x hx
    cases x with
    | rd A z n c cs =>
      simp only [rdN, Bool.and_eq_true] at this
      exact ⟨A, z, n, c, cs, rfl, Nat.le_of_ble_eq_true this.1, Nat.le_of_ble_eq_true this.2⟩
    | _ => cases this
  have hm : w.heap[gm]? = some (.map es cl) := hh (.obj gm (.map es cl)) (by simp)
  refine ⟨fun x hx => ?_, hh, fun x hx k hk => ?_, ?_, fun x hx y hy r hr hy2 => ?_⟩
  · rcases List.mem_cons.1 hx with rfl | hx
    · exact ⟨rfl, rfl⟩
    · obtain ⟨A, z, n, c, cs, rfl, _⟩ := key x hx; exact ⟨rfl, rfl⟩
  · rcases List.mem_cons.1 hx with rfl | hx
    · exact hk
    · obtain ⟨A, z, n, c, cs, rfl, _⟩ := key x hx; cases hk
  · have : rs.flatMap HA.ids = [] := List.flatMap_eq_nil_iff.2 fun x hx => by obtain ⟨A, z, n, c, cs, rfl, _⟩ := key x hx; rfl
    simp [HA.ids, this]
  · rcases List.mem_cons.1 hy with rfl | hy
    · rcases List.mem_cons.1 hx with rfl | hx
      · cases hr
      · obtain ⟨A, z, n, c, cs, rfl, hn, hz⟩ := key x hx
        obtain ⟨h1, h2⟩ := hh _ (List.mem_cons_of_mem _ hx)
        obtain ⟨_, ad, rfl, h3⟩ := mem_rid.1 hr
        have hl := h1.len
        have hp : 0 < n * z := Nat.mul_pos hn hz
        have hc := h1.cells ad rfl 0 (cs[0]'(by omega)) (by rw [List.getElem?_eq_getElem])
        have hg : r = gm := by simpa [HA.ids] using hy2
        have hb2 : (ad.add 0).block = gm := by rw [add_block, h3, hg]
        simp [World.cell?, hb2, hm] at hc
    · obtain ⟨A, z, n, c, cs, rfl, _⟩ := key y hy; cases hy2
section
variable {P : Program} {X : Cx} {s : List (Nat × Value)} {h : List HA} {o : Oper} {K K0 J : Jd}
/-- A call to which two held things are handed over. -/
theorem op_c2 {T : Type} {q : T → Prop} {res : T → Value} {hs : T → List HA} {f : FuncId} {c : Operand} {xs : List Operand} {ts : Array TypeId} {vs : List Value} {d : Nat} {x y : HA} (i j : Nat) (hi : h[i]? = some x) (hj : (h.eraseIdx i)[j]? = some y) (hcon : ∀ w, HOK h w → Calls P f vs.toArray w (Ret (x.ids ++ y.ids) w q res hs)) (hf : Go.Proofs.Enters P f)
    (ho : o.op = .call { callee := .value c, args := xs.toArray, argTypes := ts }) (hc : ev s c = some (.func (.func f) #[] #[])) (hx : xs.map (ev s) = vs.map some) (hd : o.dst = some d) (hN : Nat.blt d X.N = true) (hh : ∀ t, q t → Tr X ((d, res t) :: s) (hs t ++ (h.eraseIdx i).eraseIdx j) K) : Tr X s h (Op P o K K0) :=
  op_call (cap := []) (out := [x, y]) (keep := (h.eraseIdx i).eraseIdx j) (by simpa using hcon) ((perm_erase h i x hi).trans ((perm_erase _ j y hj).cons x)) hf ho hc hx hd hN hh
/-- A map is made. -/
theorem op_mkmap {d : Nat} {t : TypeId} (ho : o.op = .makeMap t none) (hd : o.dst = some d) (hN : Nat.blt d X.N = true)
    (hh : ∀ g, Tr X ((d, .map (some g)) :: s) (.obj g (.map #[] 0) :: h) K) : Tr X s h (Op P o K K0) := fun a w st => by
  have hr : (execOp a.eval o).run P w = .ok (.value (.map (some w.heap.size))) (w.alloc (.map #[] 0)) := by
    unfold execOp; rw [ho]
    simp [Instr.makeMap, newObj, Sem.run]
  exact op_val hr (by rw [hd]; exact hh _ _ _ ((st.put (Nat.le_of_ble_eq_true hN) _).newobj _))
/-- Two numbers as a key. -/
theorem run_ckey {w : World} {t e : TypeId} {k : IntKind} {em : Bool} {n : Nat} {u v : Value} (ht : P.underlying t = some (.array 2 e)) (he : P.underlying e = some (.int k)) (hz : (P.info? e).map (·.size) = some 1) : (Instr.checkKey em (n + 2) t (.agg [u, v].toArray)).run P w = .ok () w := by
  have p : ∀ (v' : Value) i, [u, v][i]? = some v' → (part e [u, v].toArray i).run P w = .ok v' w := fun v' i hx => part1 he rfl hx
  have p0 := p u 0 rfl
  have p1 := p v 1 rfl
  rw [Instr.checkKey]
  have c : ∀ (v' : Value), (Instr.checkKey em (n + 1) e v').run P w = .ok () w := fun v' => by
    rw [Instr.checkKey]
    simp [run_underlying he]
  simp only [Sem.run_bind, run_underlying ht, Result.andThen_ok, run_sizeOf hz, Std.Legacy.Range.forIn_eq_forIn_range', Std.Legacy.Range.size, List.range'_succ, List.range', List.forIn_cons, List.forIn_nil, Nat.reduceAdd, Nat.reduceSub, Nat.reduceDiv, Nat.mul_one, Nat.zero_mul, p0, p1, c, Nat.zero_add]
  simp [run_sizeOf hz, p1, c]
/-- Looked up in a map that holds nothing. -/
theorem ld_look0 {x y : Operand} {t kt e et : TypeId} {k : IntKind} {gm : Nat} {u v z : Value} (i : Nat) (hi : h[i]? = some (.obj gm (.map #[] 0))) (ht : P.underlying t = some (.map kt e)) (hk : P.underlying kt = some (.array 2 et)) (he : P.underlying et = some (.int k)) (hs : (P.info? et).map (·.size) = some 1) (hz : (P.info? e).bind (·.zero) = some z)
    (ho : o.op = .lookup t x y true) (hx : ev s x = some (.map (some gm))) (hy : ev s y = some (.agg [u, v].toArray)) : Ld P s h o (.tuple [z, .bool false].toArray) := fun e' he' w hw => by
  have hm : w.heap[gm]? = some (.map #[] 0) := hw _ (List.mem_of_getElem? hi)
  obtain ⟨ti, hti, htz⟩ := Option.bind_eq_some_iff.1 hz
  unfold execOp; rw [ho]
  simp only [he' _ _ hx, he' _ _ hy, Instr.lookup]
  simp only [Sem.run_bind, run_underlying ht, Result.andThen_ok, MapKept.run_getObj_map hm, Sem.run_pure, run_ckey hk he hs, Instr.findKey, run_underlying hk, Instr.findNow]
  simp [zeroValue, typeInfo, hti, htz]
theorem heap_setob (w : World) (g : Nat) (ob old : Obj) (hg : w.heap[g]? = some old) : ({ w with heap := w.heap.setIfInBounds g ob } : World).heap[g]? = some ob := by
  have := (Array.getElem?_eq_some_iff.1 hg).1
  simp [this]
/-- The first entry of a map. -/
theorem op_mapput0 {x y v0 : Operand} {t kt e et : TypeId} {k : IntKind} {gm : Nat} {u v z : Value} (i : Nat) (hi : h[i]? = some (.obj gm (.map #[] 0))) (ht : P.underlying t = some (.map kt e)) (hk : P.underlying kt = some (.array 2 et)) (he : P.underlying et = some (.int k)) (hs : (P.info? et).map (·.size) = some 1)
    (ho : o.op = .mapUpdate t x y v0) (hx : ev s x = some (.map (some gm))) (hy : ev s y = some (.agg [u, v].toArray)) (hv : ev s v0 = some z) (hd : o.dst = none) (hh : ∀ es cl, Tr X s (.obj gm (.map es cl) :: h.eraseIdx i) K) : Tr X s h (Op P o K K0) := fun a w st => by
  have hm : w.heap[gm]? = some (.map #[] 0) := st.ok _ (List.mem_of_getElem? hi)
  have hr : (execOp a.eval o).run P w = .ok .skip { w with heap := w.heap.setIfInBounds gm (.map (#[].push { key := .agg [u, v].toArray, val := z, born := 0 }) (0 + 1)) } := by
    unfold execOp; rw [ho]
    simp only [st.ag _ _ hx, st.ag _ _ hy, st.ag _ _ hv, Instr.mapUpdate]
    simp only [Sem.run_bind, run_underlying ht, Result.andThen_ok, MapKept.run_getObj_map hm, Sem.run_pure, run_ckey hk he hs, Instr.findKey, run_underlying hk, Instr.findNow, MapKept.run_setObj_map _ hm]
  refine op_skp hr hd (hh (#[].push { key := .agg [u, v].toArray, val := z, born := 0 }) (0 + 1) a _ ?_)
  refine st.swap [.obj gm (.map #[] 0)] (h.eraseIdx i) [.obj gm _] (perm_erase h i _ hi) st.sz st.df st.sl ⟨⟨rfl, rfl, rfl, by simp⟩, fun k _ hk => ?_⟩ ?_ ?_ ?_ ?_
  · have : ¬ gm = k := fun e => hk (by simp [HA.ids, e])
    simp [Array.getElem?_setIfInBounds, this]
  · intro x hx; rw [List.mem_singleton] at hx; subst hx; exact heap_setob w gm _ _ hm
  · intro x hx k hk; rw [List.mem_singleton] at hx; subst hx; exact .inl (by simpa [HA.ids, HA.frs] using hk)
  · simp [HA.ids]
  · intro x hx r hr; rw [List.mem_singleton] at hx; subst hx; cases hr
theorem foldl_put : ∀ (vs : List Value) (off j0 : Nat) (cells : Array Value), ((vs.zipIdx j0).foldl (fun (cs : Array Value) (x : Value × Nat) => cs.setIfInBounds (off + x.2) x.1) cells).toList = sets cells.toList (off + j0) vs
  | [], _, _, _ => rfl
  | v :: r, off, j0, cells => by
    rw [List.zipIdx_cons, List.foldl_cons, foldl_put r off (j0 + 1)]
    simp [sets, Nat.add_assoc]
theorem jm_take2 {xs : List (BitVec 8)} {v : Value} : (xs.map b8 ++ [v]).take (xs.map b8).length = xs.map b8 := List.take_left
/-- A struct of two parts. -/
theorem run_build2 {w : World} {t : TypeId} {f0 f1 : Field} {z vx vy : Value} {xs ys : List Value} {n m : Nat} (ht : P.underlying t = some (.struct #[f0, f1])) (hz : (P.info? t).bind (·.zero) = some z) (hzl : z.cells.size = n + m) (h0 : f0.offset = 0) (h1 : f1.offset = n) (hn : (P.info? f0.type).map (·.size) = some n) (hm : (P.info? f1.type).map (·.size) = some m)
    (hx : vx.cells.toList = xs) (hy : vy.cells.toList = ys) (hxl : xs.length = n) (hyl : ys.length = m) : (Instr.build t #[(0, vx), (1, vy)]).run P w = .ok (.agg (xs ++ ys).toArray) w := by
  obtain ⟨ti, hti, htz⟩ := Option.bind_eq_some_iff.1 hz
  have sx : vx.cells.size = n := by rw [← Array.length_toList, hx, hxl]
  have sy : vy.cells.size = m := by rw [← Array.length_toList, hy, hyl]
  have fx : ∀ c : Array Value, (vx.cells.zipIdx.foldl (fun (cs : Array Value) (x : Value × Nat) => cs.setIfInBounds (0 + x.2) x.1) c).toList = sets c.toList 0 xs := fun c => by
    rw [← Array.foldl_toList, Array.toList_zipIdx, hx]
    exact foldl_put xs 0 0 c
  have fy : ∀ c : Array Value, (vy.cells.zipIdx.foldl (fun (cs : Array Value) (x : Value × Nat) => cs.setIfInBounds (n + x.2) x.1) c).toList = sets c.toList n ys := fun c => by
    rw [← Array.foldl_toList, Array.toList_zipIdx, hy]
    exact foldl_put ys n 0 c
  generalize hc1 : vx.cells.zipIdx.foldl (fun (cs : Array Value) (x : Value × Nat) => cs.setIfInBounds (0 + x.2) x.1) z.cells = c1
  generalize hc2 : vy.cells.zipIdx.foldl (fun (cs : Array Value) (x : Value × Nat) => cs.setIfInBounds (n + x.2) x.1) c1 = c2
  have l1 : c1.toList = sets z.cells.toList 0 xs := by rw [← hc1]; exact fx _
  have l2 : c2.toList = sets c1.toList n ys := by rw [← hc2]; exact fy _
  have zl : z.cells.toList.length = n + m := by simpa using hzl
  have s1 : c1.size = n + m := by rw [← Array.length_toList, l1, sets_len, zl]
  have e1 := sets_take xs z.cells.toList 0 (by omega)
  have e2 := sets_take ys c1.toList n (by rw [l1, sets_len, zl, hyl]; exact Nat.le_refl _)
  rw [← l1, Nat.zero_add, hxl] at e1
  rw [← l2, e1, hyl] at e2
  have hc : c2 = (xs ++ ys).toArray := by
    apply Array.toList_inj.1
    have : c2.toList.length = n + m := by rw [l2, sets_len, Array.length_toList, s1]
    rw [List.take_of_length_le (by omega)] at e2
    rw [e2]; simp
  have hp : (#[f0, f1].mapM fun (f : Field) => (do pure (f.offset, ← sizeOf f.type) : Sem (Nat × Nat))).run P w = .ok #[(0, n), (n, m)] w := by
    simp [run_sizeOf hn, run_sizeOf hm, h0, h1]
  have hz0 : (zeroValue t).run P w = .ok z w := by simp [zeroValue, typeInfo, hti, htz]
  unfold Instr.build
  rw [Sem.run_bind, hz0, Result.andThen_ok, Sem.run_bind, run_underlying ht, Result.andThen_ok]
  show ((do let places ← #[f0, f1].mapM fun (f : Field) => (do pure (f.offset, ← sizeOf f.type) : Sem (Nat × Nat)); _ : Sem Value)).run P w = _
  rw [Sem.run_bind, hp, Result.andThen_ok]
  have hf : Instr.fill (fun x => (#[(0, n), (n, m)] : Array (Nat × Nat))[x]?) z.cells [(0, vx), (1, vy)] = some c2 := by
    rw [Instr.fill]
    show (if (decide (vx.cells.size ≠ n) || decide (0 + vx.cells.size > z.cells.size)) = true then none else _) = _
    rw [if_neg (by simp [sx, hzl])]
    show Instr.fill _ (vx.cells.zipIdx.foldl (fun (cs : Array Value) (x : Value × Nat) => cs.setIfInBounds (0 + x.2) x.1) z.cells) [(1, vy)] = _
    rw [hc1, Instr.fill]
    show (if (decide (vy.cells.size ≠ m) || decide (n + vy.cells.size > c1.size)) = true then none else _) = _
    rw [if_neg (by simp [sy, s1])]
    show Instr.fill _ (vy.cells.zipIdx.foldl (fun (cs : Array Value) (x : Value × Nat) => cs.setIfInBounds (n + x.2) x.1) c1) [] = _
    rw [hc2]; rfl
  show ((match Instr.fill (fun x => (#[(0, n), (n, m)] : Array (Nat × Nat))[x]?) z.cells [(0, vx), (1, vy)] with | some cells => pure (Value.agg cells) | _ => stuck "build: no such field, or a part of the wrong size" : Sem Value)).run P w = _
  rw [hf, hc]; rfl
theorem run_build2b {w : World} {t : TypeId} {f0 f1 : Field} {z : Value} {a b : List (BitVec 8)} {n m : Nat} (ht : P.underlying t = some (.struct #[f0, f1])) (hz : (P.info? t).bind (·.zero) = some z) (hzl : z.cells.size = n + m) (h0 : f0.offset = 0) (h1 : f1.offset = n) (hn : (P.info? f0.type).map (·.size) = some n) (hm : (P.info? f1.type).map (·.size) = some m)
    (hxl : a.length = n) (hyl : b.length = m) : (Instr.build t #[(0, .agg (a.map b8).toArray), (1, .agg (b.map b8).toArray)]).run P w = .ok (.agg ((a ++ b).map b8).toArray) w := by
  rw [List.map_append]
  exact run_build2 ht hz hzl h0 h1 hn hm rfl rfl (by simpa using hxl) (by simpa using hyl)
theorem run_build2m {w : World} {t : TypeId} {f0 f1 : Field} {z : Value} {a : List (BitVec 8)} {g n : Nat} (ht : P.underlying t = some (.struct #[f0, f1])) (hz : (P.info? t).bind (·.zero) = some z) (hzl : z.cells.size = n + 1) (h0 : f0.offset = 0) (h1 : f1.offset = n) (hn : (P.info? f0.type).map (·.size) = some n) (hm : (P.info? f1.type).map (·.size) = some 1)
    (hxl : a.length = n) : (Instr.build t #[(0, .agg (a.map b8).toArray), (1, Value.map (some g))]).run P w = .ok (.agg (a.map b8 ++ [Value.map (some g)]).toArray) w :=
  run_build2 ht hz hzl h0 h1 hn hm rfl rfl (by simpa using hxl) rfl
theorem jm_at {xs : List (BitVec 8)} {v : Value} (h : xs.length = 32) : (xs.map b8 ++ [v])[32]? = some v := by
  rw [List.getElem?_append_right (by simp [h])]; simp [h]
theorem jm_take {xs : List (BitVec 8)} {v : Value} : ((xs.map b8 ++ [v]).drop 0).take (xs.map b8).length = xs.map b8 := by
  rw [List.drop_zero, List.take_left]
end
end Go.Proofs.YtlplpmkdebemnaaDoor.Fw
namespace Go.Proofs.YtlplpmkdebemnaaDoor
set_option linter.unusedVariables false
set_option linter.unusedSimpArgs false
open Go.RowKit Go.Sort Go.Lib Bv Fw
/-- The table of powers of ten. -/
def Tab (w : World) : Prop := Lib.TabIs Tryd.prog w "internal/strconv.uint64pow10" .u64 Lib.pow10Tab
theorem tab_lt {w : World} (h : Tab w) : ∃ g, Tryd.prog.globalNamed "internal/strconv.uint64pow10" = some g ∧ g < w.heap.size := by
  unfold Tab Lib.TabIs World.var? at h
  cases hg : Tryd.prog.globalNamed "internal/strconv.uint64pow10" with
  | none => simp [hg] at h
  | some g =>
    refine ⟨g, rfl, ?_⟩
    simp only [hg, Option.bind_some] at h
    rcases Nat.lt_or_ge g w.heap.size with h' | h'
    · exact h'
    · rw [Array.getElem?_eq_none h'] at h; simp at h
theorem tab_keep {w w' : World} (h : Tab w) (k : Keep [] w w') : Tab w' := by
  obtain ⟨g, hg, hlt⟩ := tab_lt h
  unfold Tab Lib.TabIs World.var? at *
  simp only [hg, Option.bind_some] at h ⊢
  rw [k.block g hlt (by simp)]
  exact h
theorem below_grow (w : World) (k : Nat) (os : Array Obj) : Below w.heap.size w (grow (w.drewN k) os) := by
  have e : (w.drewN k).heap = w.heap := World.heap_drewN w k
  refine ⟨rfl, rfl, rfl, ?_, fun i hi => ?_⟩
  · simp [grow, e]
  · rw [heap_grow_old _ _ (by rw [e]; exact hi), e]
theorem holds_zero20 (w : World) (T : TypeId) (nd : Nat) (hs : nd ≤ 20) : Holds (fun (b : UInt8) => Value.int .u8 (b.toNat : Int)) (w.alloc (.cells Lib.zeros24 T)) w.heap.size 0 (Array.replicate nd (0 : UInt8)) := fun j hj => by
  have hj' : j < nd := by simpa using hj
  refine ⟨?_, World.frozen?_alloc_new _ _ _ _⟩
  rw [World.cell?_alloc_new, Lib.zeros24_at _ (by omega), getElem!_pos _ j hj]
  simp
theorem fin20 (w : World) (o : Obj) (dk : Array UInt8) (k : Nat) : ∃ os, (putRow (fun (b : UInt8) => Value.int .u8 (b.toNat : Int)) (w.alloc o) w.heap.size 0 dk).drewN k = grow (w.drewN k) os := by
  rw [alloc_eq_grow]
  obtain ⟨os', _, e⟩ := putRow_grow_new (fun (b : UInt8) => Value.int .u8 (b.toNat : Int)) w #[o] w.heap.size 0 dk (Nat.le_refl _)
  exact ⟨os', by rw [e]; rfl⟩
set_option maxHeartbeats 6400000 in
set_option maxRecDepth 100000 in
theorem fuint (u : Nat) (hu64 : u < 18446744073709551616) (w : World) (htab : Tab w) :
    Calls Tryd.prog 37 #[.int .u64 u, .int .i64 10] w fun e w' => e = .returned (.string ⟨(Lib.decDigits u).toArray⟩) ∧ ∃ k os, w' = grow (w.drewN k) os := by
  by_cases hs : u < 100
  · go_enter Tryd.func37, Tryd.ntmps37
    go_wp2_with (go_at_call 44; refine (Tryd.internal_strconv_small u hs _).mono ?_; rintro e w' ⟨rfl, rfl⟩)
    go_ret
    exact ⟨rfl, 0, #[], by simp [World.drewN_zero]⟩
  · have hu1 : 1 ≤ u := by omega
    have hnd20 : Lib.nDigits u ≤ 20 := by have := Lib.numDigits_eq u hu1 hu64; split at this <;> omega
    have hal : Tryd.prog.arrayLen 65 = 24 := by simp [Program.arrayLen, Tryd.underlying65]
    have hsl1 : ∀ W, (Instr.sliceAt 65 (.pointer (some ⟨w.heap.size, 0, none⟩)) none (some (.int .i64 (Lib.nDigits u : Int))) none).run Tryd.prog W = .ok (.slice (some ⟨w.heap.size, 0, none⟩) (Lib.nDigits u) 24) W := fun W => by
      rw [run_sliceAt_array_h W 65 ⟨w.heap.size, 0, none⟩ (by simp [Program.arrayLen, Program.elem, Tryd.underlying65]) .i64 (Lib.nDigits u : Int) (by omega) (by rw [hal]; omega)]
      go_simp
    have hH0 := holds_zero20 w 65 (Lib.nDigits u) hnd20
    have hfmt := Tryd.internal_strconv_formatBase10 w.heap.size 0 24 u (Array.replicate (Lib.nDigits u) 0) (w.alloc (.cells Lib.zeros24 65)) hH0 (by rw [Array.size_replicate]; exact Lib.lt_pow_nDigits u) hu64 (by rw [Array.size_replicate]; omega)
    rw [Array.size_replicate] at hfmt
    have HH0 := Lib.hid hH0
    clear hH0 hal
    have htb : Lib.TabIs Tryd.prog w "internal/strconv.uint64pow10" .u64 Lib.pow10Tab := htab
    go_enter Tryd.func37, Tryd.ntmps37
    go_wp2_with (first
      | (go_at_call 45; refine (Tryd.internal_strconv_numDigits u hu1 hu64 _ (Lib.tabIs_alloc htb _)).mono ?_; rintro e w' ⟨rfl, rfl⟩))
    go_at_call 46
    refine hfmt.mono ?_
    rintro e w' ⟨rfl, k, v', dk, rfl, hF⟩
    have hcv : (convert 29 9 (.slice (some ⟨w.heap.size, 0, none⟩) (Lib.nDigits u) 24)).run Tryd.prog ((putRow (fun (b : UInt8) => Value.int .u8 (b.toNat : Int)) (w.alloc (.cells Lib.zeros24 65)) w.heap.size 0 dk).drewN k) = .ok (.string ⟨(Lib.decDigits u).toArray⟩) ((putRow (fun (b : UInt8) => Value.int .u8 (b.toNat : Int)) (w.alloc (.cells Lib.zeros24 65)) w.heap.size 0 dk).drewN k) := by
      have h := run_convert_bytes_back (P := Tryd.prog) ((putRow (fun (b : UInt8) => Value.int .u8 (b.toNat : Int)) (w.alloc (.cells Lib.zeros24 65)) w.heap.size 0 dk).drewN k) 29 9 5 ⟨w.heap.size, 0, none⟩ 24 (Lib.decDigits u) Tryd.underlying29 Tryd.underlying5 Tryd.underlying9 (fun j hj => by
        rw [Lib.row_is_numeral hF j hj, Lib.add_plain, World.cell?_drewN]
        exact cell?_putRow (fun (b : UInt8) => Value.int .u8 (b.toNat : Int)) _ w.heap.size 0 _ dk HH0.out (by rw [hF.size, Array.size_replicate]) j (by rw [hF.size]; rw [Lib.decDigits_length] at hj; exact hj))
      rw [Lib.decDigits_length] at h
      exact h
    go_wp2
    go_ret
    obtain ⟨os, eo⟩ := fin20 w (.cells Lib.zeros24 65) dk k
    exact ⟨rfl, k, os, eo⟩
/-- Decimal digits, and numerals, as bytes. -/
def decb (u : Nat) : List (BitVec 8) := (Lib.decDigits u).map UInt8.toBitVec
def itob (z : Int) : List (BitVec 8) := (Lib.itoa z).map UInt8.toBitVec
theorem sob_back (l : List UInt8) : sob (l.map UInt8.toBitVec) = ⟨l.toArray⟩ := by
  unfold sob
  rw [List.map_map, show ((fun b : BitVec 8 => (⟨b⟩ : UInt8)) ∘ UInt8.toBitVec) = id from rfl, List.map_id]
theorem decb_small {u : Nat} (h : u < 10) : decb u = [BitVec.ofNat 8 (48 + u)] := by
  unfold decb; rw [Lib.decDigits, dif_pos h]; rfl
theorem decb_big {u : Nat} (h : ¬ u < 10) : decb u = decb (u / 10) ++ [BitVec.ofNat 8 (48 + u % 10)] := by
  unfold decb
  rw [Lib.decDigits, dif_neg h, List.map_append]; rfl
theorem itob_neg {z : Int} (h : z < 0) : itob z = 45#8 :: decb z.natAbs := by unfold itob Lib.itoa; rw [if_pos h]; rfl
theorem itob_pos {z : Int} (h : ¬ z < 0) : itob z = decb z.toNat := by unfold itob Lib.itoa; rw [if_neg h]; rfl
theorem itoa_c (z : Int) (w : World) (h0 : -9223372036854775808 ≤ z) (h1 : z ≤ 9223372036854775807) (htab : Tab w) : Calls Tryd.prog 26 [.int .i64 z].toArray w (Ret (T := Unit) [] w (fun _ => True) (fun _ => .string (sob (itob z))) (fun _ => [])) := by
  refine ret_of_below ((Tryd.strconv_Itoa z h0 h1 w htab).mono fun e w' ⟨he, k, os, hw⟩ => ?_)
  subst hw
  exact ⟨by rw [he]; unfold itob; rw [sob_back], below_grow w k os⟩
theorem fuint_c (u : BitVec 64) (w : World) (htab : Tab w) : Calls Tryd.prog 37 [b64 u, .int .i64 ((10 : Nat) : Int)].toArray w (Ret (T := Unit) [] w (fun _ => True) (fun _ => .string (sob (decb u.toNat))) (fun _ => [])) := by
  refine ret_of_below ((fuint u.toNat u.isLt w htab).mono fun e w' ⟨he, k, os, hw⟩ => ?_)
  subst hw
  exact ⟨by rw [he]; unfold decb; rw [sob_back], below_grow w k os⟩
attribute [irreducible] decb itob
end Go.Proofs.YtlplpmkdebemnaaDoor
namespace Go.Proofs.YtlplpmkdebemnaaDoor
set_option linter.unusedVariables false
open Go.ChangeShapes Go.WideShapes Go.RowKit
/-- The listed variables. -/
def laidL : List (String × DataW Unit) := [("math/bits.deBruijn32tab", Rows.laid_math_bits_deBruijn32tab), ("math/bits.deBruijn64tab", Rows.laid_math_bits_deBruijn64tab), ("internal/strconv.uint64pow10", Rows.laid_internal_strconv_uint64pow10)]
theorem laid_tab {W : World} (h : laidMetH Tryd.prog laidL W) : Tab W := by
  have h' : laidMet Tryd.prog laidL W := h
  obtain ⟨ps, ⟨g1, t1, cs1, fu1, p1, q1, -, -, -, -, ⟨g2, t2, cs2, fu2, p2, q2, -, -, -, -, ⟨g, t, cs, fuel, p, q, hg, ht, hvar, hd, -, -⟩, -⟩, -⟩, -⟩ := h'
  have e1 : Tryd.prog.globalNamed "internal/strconv.uint64pow10" = some 0 := by kernel_rfl
  have e2 : (Tryd.prog.globals[(0 : Nat)]?).map (·.type) = some 77 := by kernel_rfl
  obtain rfl := Option.some.inj (e1.symm.trans hg)
  obtain rfl := Option.some.inj (e2.symm.trans ht)
  have e3 : (Rows.laid_internal_strconv_uint64pow10 : DataW Unit) = Lib.tabData .u64 Lib.pow10Tab := by rfl
  rw [e3] at hd
  unfold Tab Lib.TabIs
  rw [hvar, ← Lib.cells_of_tab Tryd.underlying77 Tryd.underlying22 (by kernel_rfl) (by kernel_rfl) hd]
/-- The variables' cells. -/
def cA : List Value := [0, 1, 28, 2, 29, 14, 24, 3, 30, 22, 20, 15, 25, 17, 4, 8, 31, 27, 13, 23, 21, 19, 16, 7, 26, 12, 18, 6, 11, 5, 10, 9].map fun z => .int .u8 z
def cB : List Value := [0, 1, 56, 2, 57, 49, 28, 3, 61, 58, 42, 50, 38, 29, 17, 4, 62, 47, 59, 36, 45, 43, 51, 22, 53, 39, 33, 30, 24, 18, 12, 5, 63, 55, 48, 27, 60, 41, 37, 16, 46, 35, 44, 21, 52, 32, 23, 11, 54, 26, 40, 15, 34, 20, 31, 10, 25, 14, 19, 9, 13, 8, 7, 6].map fun z => .int .u8 z
def cC : List Value := Lib.pow10Tab.map fun z => .int .u64 z
def lay (c : List Value) : Obj → Obj
  | .cells _ t frozen => .cells c.toArray t frozen
  | o => o
/-- A world that meets the condition. -/
noncomputable def laidWorld (os : Os) : World :=
  { World.holding Tryd.prog os ⟨#[], #[], []⟩ with heap := (((World.holding Tryd.prog os ⟨#[], #[], []⟩).heap.modify 1 (lay cA)).modify 2 (lay cB)).modify 0 (lay cC) }
def ints (c : List Value) : Bool := c.all fun | .int _ _ => true | _ => false
theorem ints_at {c : List Value} (h : ints c = true) {i : Nat} {u : TypeId} {v : Value} (hc : c[i]? = some (.iface u v)) : False := by
  have := List.all_eq_true.1 h _ (List.mem_of_getElem? hc)
  cases this
def among (ps : List MemPlace) : Bool := ps.all fun | .cell b _ => b == 1 || b == 2 || b == 0 | _ => false
theorem among_at {ps : List MemPlace} (h : among ps = true) {b off : Nat} (hm : MemPlace.cell b off ∈ ps) : b = 1 ∨ b = 2 ∨ b = 0 := by
  have := List.all_eq_true.1 h _ hm
  simpa [or_assoc] using this
/-- The world as a call finds it. -/
noncomputable abbrev laidMem (os : Os) (args : Array Value) : World := ((laidWorld os).forCall (fun _ _ => 0) ⟨#[], args, []⟩).memory
theorem laidWorld_met (os : Os) (args : Array Value) : laidMetH Tryd.prog laidL (laidMem os args) := by
  have rA : (laidMem os args).heap[(1 : Nat)]? = some (.cells cA.toArray 34 (0, 0)) := by kernel_rfl
  have rB : (laidMem os args).heap[(2 : Nat)]? = some (.cells cB.toArray 95 (0, 0)) := by kernel_rfl
  have rC : (laidMem os args).heap[(0 : Nat)]? = some (.cells cC.toArray 77 (0, 0)) := by kernel_rfl
  show laidMet Tryd.prog laidL (laidMem os args)
  refine ⟨_, ⟨1, 34, cA.toArray, 8, [], _, by kernel_rfl, by kernel_rfl, by kernel_rfl, by kernel_rfl, ⟨2, 95, cB.toArray, 8, [], _, by kernel_rfl, by kernel_rfl, by kernel_rfl, by kernel_rfl, ⟨0, 77, cC.toArray, 8, [], [], by kernel_rfl, by kernel_rfl, by kernel_rfl, by kernel_rfl, rfl, rfl⟩, rfl⟩, rfl⟩, of_decide_eq_true (by kernel_rfl), fun b off h => ?_⟩
  rcases among_at (by kernel_rfl) h with rfl | rfl | rfl
  · refine ⟨⟨_, _, rA⟩, fun u v hc => ?_⟩
    simp only [World.cell?, rA] at hc
    exact (ints_at (c := cA) (by kernel_rfl) (by simpa using hc)).elim
  · refine ⟨⟨_, _, rB⟩, fun u v hc => ?_⟩
    simp only [World.cell?, rB] at hc
    exact (ints_at (c := cB) (by kernel_rfl) (by simpa using hc)).elim
  · refine ⟨⟨_, _, rC⟩, fun u v hc => ?_⟩
    simp only [World.cell?, rC] at hc
    exact (ints_at (c := cC) (by kernel_rfl) (by simpa using hc)).elim
end Go.Proofs.YtlplpmkdebemnaaDoor
namespace Go.Proofs.YtlplpmkdebemnaaDoor
set_option linter.unusedVariables false
set_option linter.unusedSimpArgs false
open Go.RowKit Bv
attribute [local go_sem] cv8_64 or64 shlv64 shrv64 cv64_8

theorem oinfo8 : (Tryd.prog.info? 5).map (fun i => (i.zero, i.size, i.bytes)) = some (some (.int .u8 0), 1, 1) := by kernel_rfl
theorem ob8_one (x : BitVec 8) : (b8 x).oneCell' = true := rfl
/-- The number of the first k bytes, the lowest first. -/
def low (xs : List (BitVec 8)) : Nat → BitVec 64
  | 0 => 0#64
  | k + 1 => low xs k ||| (ath xs k).setWidth 64 <<< (8 * k)
/-- The first k bytes of a number, the lowest first. -/
def lowb (v : BitVec 64) : Nat → List (BitVec 8)
  | 0 => []
  | k + 1 => lowb v k ++ [(v >>> (8 * k)).setWidth 8]
theorem lowb_len (v : BitVec 64) : ∀ k, (lowb v k).length = k
  | 0 => rfl
  | k + 1 => by simp [lowb, lowb_len v k]


/-- A row of the call's own with so many bytes more. -/
def More (base : Nat) (w : World) (n : Nat) (xs : List (BitVec 8)) (e : Ending) (w' : World) : Prop :=
  ∃ A c, e = .returned (.slice A n c) ∧ w'.ownsRow base 5 1 (.slice A n c) n (xs.map b8) ∧ Below base w w'
theorem putlow_any (A : Option Addr) (n c m base : Nat) (xs : List (BitVec 8)) (v : BitVec 64) (w : World) (h : w.ownsRow base 5 1 (.slice A n c) n (xs.map b8)) (hb : base ≤ w.heap.size) (hn : n ≤ 70368744177664) (h8 : m ≤ 8) :
    Calls Tryd.prog 29 #[.slice A n c, b64 v, .int .i64 m] w (More base w (n + m) (xs ++ lowb v m)) := by
  obtain ⟨i0, hi, hz0, hz1, hz2⟩ := info_parts oinfo8
  have H := Lib.hid h
  clear h
  go_enter Tryd.func29, Tryd.ntmps29
  go_wp2
  go_loopw [0, 7, 9] (fun s _ i wr => ∃ (k : Nat) (A' : Option Addr) (c' : Nat), k ≤ m ∧ s = .slice A' (n + k) c' ∧ i = .int .i64 k ∧ wr.ownsRow base 5 1 (.slice A' (n + k) c') (n + k) ((xs ++ lowb v k).map b8) ∧ Below base w wr) (fun _ _ i _ => m - (intOf i).toNat)
  case atStart => exact ⟨0, A, c, Nat.zero_le _, rfl, rfl, by simpa [lowb] using H.out, Below.refl _ _⟩
  case round =>
    obtain ⟨k, A', c', hk2, rfl, rfl, hown, hbl⟩ := hrel
    have hsz := hbl.size
    have HB := Lib.hid hbl
    have HO := Lib.hid hown
    clear hbl hown
    by_cases hk : k < m
    · go_wp2_with (at_builtin; refine wpList_append_rd ob8_one rfl _ _ 29 rfl base 5 i0 (.int .u8 0) 1 Tryd.underlying29 hi hz0 hz1 hz2 rfl (.slice A' (n + k) c') (n + k) ((xs ++ lowb v k).map b8) rfl (HO.out.alloc _) (some ⟨wr.heap.size, 0, none⟩) 1 1 [(v >>> (8 * k)).setWidth 8] rfl (Rd.one _ _ 5) (by unfold maxLen; omega) (by omega) (by simp; omega) ?_; intro A3 c3 w3 hown3 hg3)
      have hB3 : Hid (Below base w w3) := Lib.hid ((HB.out.alloc (by omega) _).grown hg3 (by simp; omega) (own_block HO.out))
      have HO3 := Lib.hid hown3
      clear hown3 hg3
      go_wp2
      go_roundw
      case rel => exact ⟨k + 1, A3, c3, by omega, rfl, by go_num, by have := HO3.out; simpa [lowb, Nat.add_assoc] using this, hB3.out⟩
      case measure => simp [intOf]; omega
    · obtain rfl : k = m := by omega
      go_wp2
      go_ret
      exact ⟨A', c', rfl, HO.out, HB.out⟩
end Go.Proofs.YtlplpmkdebemnaaDoor
namespace Go.Proofs.YtlplpmkdebemnaaDoor
set_option linter.unusedVariables false
set_option linter.unusedSimpArgs false
set_option linter.unnecessarySimpa false
set_option maxRecDepth 100000
open Go.RowKit Bv Fw

/-- The first k bytes of a number of n bytes, the highest first. -/
def highb (v : BitVec 64) (n : Nat) : Nat → List (BitVec 8)
  | 0 => []
  | k + 1 => highb v n k ++ [(v >>> (8 * (n - 1 - k))).setWidth 8]
theorem highb_len (v : BitVec 64) (n : Nat) : ∀ k, (highb v n k).length = k
  | 0 => rfl
  | k + 1 => by rw [highb, List.length_append, highb_len v n k]; rfl
/-- The number of the first k bytes, the highest first. -/
def high (xs : List (BitVec 8)) : Nat → BitVec 64
  | 0 => 0#64
  | k + 1 => high xs k <<< 8 ||| (ath xs k).setWidth 64
set_option maxHeartbeats 4000000 in
theorem putLow_f (zs : List (BitVec 8)) (v : BitVec 64) (k : Nat) (A : Option Addr) (n : Nat) (c : Nat) (w : World) (hO : HA.ok w (.row (.slice A n c) 5 1 n (zs.map b8))) (hk : k ≤ 8) (hn : n + 8 ≤ 100000000000000) : Calls Tryd.prog 29 [(.slice A n c), (b64 v), (.int .i64 ((k : Nat) : Int))].toArray w (Ret (T := Option Addr × Nat) (HA.ids (.row (.slice A n c) 5 1 n (zs.map b8))) w (fun ⟨B, d⟩ => True) (fun ⟨B, d⟩ => (.slice B (n + k) d)) (fun ⟨B, d⟩ => [.row (.slice B (n + k) d) 5 1 (n + k) ((zs ++ lowb v k).map b8)])) := by
 have hF : Wid Fence.wide := wid_wide
 refine enter (c := _) Tryd.func29 rfl (HA.ids (.row (.slice A n c) 5 1 n (zs.map b8))) _ [.row (.slice A n c) 5 1 n (zs.map b8)] (by rw [Tryd.ntmps29]; rfl) (own_one hO rfl rfl) ?_
 rw [Tryd.ntmps29]
 refine T_re [(0, (.slice A n c)), (1, (b64 v)), (2, (.int .i64 ((k : Nat) : Int)))] (sc rfl (sc rfl (sc rfl sn))) ?_
 refine T_he [0] [.row (.slice A n c) 5 1 n (zs.map b8)] ⟨by decide, rfl⟩ ?_
 refine Tsr hF rfl ?_
 refine la rfl rfl rfl rfl rfl ?_
 refine L_nil ?_
 refine T_seq ?_
 refine Tsr hF rfl ?_
 refine lm rfl rfl rfl rfl rfl ?_
 refine lm rfl rfl rfl rfl rfl ?_
 refine L_nil ?_
 refine T_block ?_
 refine T_slot 0 (.slice A n c) (.slice A (n + 0) c) rfl (by first | rfl | (congr 2; omega) | (simp; omega)) ?_
 refine T_as 0 _ (.row (.slice A (n + 0) c) 5 1 (n + 0) ((zs ++ lowb v 0).map b8)) rfl (by simp [lowb]) ?_
 refine T_loop (T := Nat × Option Addr × Nat) (fun ⟨j, A1, c1⟩ => j ≤ k) (fun ⟨j, A1, c1⟩ => [(0, (.slice A1 (n + j) c1)), (1, (b64 v)), (8, (.int .i64 ((k : Nat) : Int))), (9, (.int .i64 ((j : Nat) : Int)))]) (fun ⟨j, A1, c1⟩ => [.row (.slice A1 (n + j) c1) 5 1 (n + j) ((zs ++ lowb v j).map b8)]) (fun ⟨j, A1, c1⟩ => k - j) (0, A, c) (by first | trivial | ((try dsimp only); first | omega | (refine ⟨?_, ?_⟩ <;> omega) | (refine ⟨?_, ?_, ?_⟩ <;> omega) | (simp; done) | (simp; omega))) (sc rfl (sc rfl (sc rfl (sc rfl sn)))) [0] ⟨by decide, rfl⟩ ?_
 rintro ⟨j, A1, c1⟩ hp
 have hp : j ≤ k := hp
 refine T_re [(0, (.slice A1 (n + j) c1)), (1, (b64 v)), (8, (.int .i64 ((k : Nat) : Int))), (9, (.int .i64 ((j : Nat) : Int)))] (sc rfl (sc rfl (sc rfl (sc rfl sn)))) ?_
 refine T_he [0] [.row (.slice A1 (n + j) c1) 5 1 (n + j) ((zs ++ lowb v j).map b8)] ⟨by decide, rfl⟩ ?_
 refine Tsr hF rfl ?_
 refine lo rfl (pr_cmp (bo := .lss) (nc_lt (a := j) (b := k)) rfl rfl rfl rfl) rfl rfl ?_
 refine L_nil ?_
 refine T_seq ?_
 refine T_cond (decide (j < k)) rfl (fun hc_1 => ?_) (fun hc_1 => ?_)
 ·
  have hc_1 := of_decide_eq_true hc_1
  refine T_skip ?_
  refine T_seq ?_
  refine T_block ?_
  refine Tsr hF rfl ?_
  refine lm rfl rfl rfl rfl rfl ?_
  refine la rfl rfl rfl rfl rfl ?_
  refine L_nil ?_
  refine T_reg hF rfl ?_
  refine lm rfl rfl rfl rfl rfl ?_
  refine lm rfl rfl rfl rfl rfl ?_
  refine lm rfl rfl rfl rfl rfl ?_
  refine lo rfl (pr_mul (nm_i64 (a := 8) (b := j) sd) rfl rfl rfl) rfl rfl ?_
  refine lo rfl (pr_shift (sh_shr64 v _ (8 * j)) rfl rfl rfl rfl) rfl rfl ?_
  refine lo rfl (pr_cv (cv64_8 _) Tryd.underlying22 Tryd.underlying5 rfl rfl) rfl rfl ?_
  refine L_op rfl (op_bslice (e := 5) (zs := [(b8 ((v >>> (8 * j)).setWidth 8))]) (qs := [(0, (b8 ((v >>> (8 * j)).setWidth 8)))]) (fun _ => by kernel_rfl) rfl rfl rfl rfl (fun g2 => ?_))
  refine L_op rfl (op_append (z := (b8 (0#8))) (size := 1) (bytes := 1) 1 rfl Tryd.underlying29 kr kr (by decide) (src_full (z := 1) 0 rfl rfl sd sd) (by simp [Value.oneCell']) sd sd rfl rfl rfl rfl rfl (fun A3 C4 => ?_))
  refine T_as 0 _ (.row (.slice A3 (n + j + 1) C4) 5 1 (n + j + 1) ((zs ++ lowb v j ++ [((v >>> (8 * j)).setWidth 8)]).map b8)) rfl (by first | rfl | (congr 1; simp; done) | (simp only [List.map_append]; rfl) | (rw [List.map_append]; rfl)) ?_
  refine la rfl rfl rfl rfl rfl ?_
  refine L_nil ?_
  refine T_reg hF rfl ?_
  refine lo rfl (pr_add (na_i64 (a := j) (b := 1) sd) rfl rfl rfl) rfl rfl ?_
  refine lm rfl rfl rfl rfl rfl ?_
  refine L_nil ?_
  refine T_slot 0 (.slice A3 (n + j + 1) C4) (.slice A3 (n + (j + 1)) C4) rfl (by first | rfl | (congr 2; omega) | (simp; omega)) ?_
  refine T_as 0 _ (.row (.slice A3 (n + (j + 1)) C4) 5 1 (n + (j + 1)) ((zs ++ lowb v (j + 1)).map b8)) rfl (by simp [lowb] <;> omega) ?_
  exact T_again (j + 1, A3, C4) (by first | trivial | ((try dsimp only); first | omega | (refine ⟨?_, ?_⟩ <;> omega) | (refine ⟨?_, ?_, ?_⟩ <;> omega) | (simp; done) | (simp; omega))) (by first | trivial | ((try dsimp only); first | omega | (refine ⟨?_, ?_⟩ <;> omega) | (refine ⟨?_, ?_, ?_⟩ <;> omega) | (simp; done) | (simp; omega))) (sc rfl (sc rfl (sc rfl (sc rfl sn)))) [0] ⟨by decide, rfl⟩
 ·
  have hc_1 := of_decide_eq_false hc_1
  refine T_exit rfl ?_
  refine Tsr hF rfl ?_
  refine lm rfl rfl rfl rfl rfl ?_
  refine la rfl rfl rfl rfl rfl ?_
  refine L_nil ?_
  refine T_ret ?_
  obtain rfl : k = j := by omega
  exact T_fin (A1, c1) (by first | trivial | omega | (simp; done)) (res1 rfl rfl) [0] ⟨by decide, rfl⟩ rfl
set_option maxHeartbeats 4000000 in
theorem putHigh_f (zs : List (BitVec 8)) (v : BitVec 64) (k : Nat) (A : Option Addr) (n : Nat) (c : Nat) (w : World) (hO : HA.ok w (.row (.slice A n c) 5 1 n (zs.map b8))) (hk : k ≤ 8) (hn : n + 8 ≤ 100000000000000) : Calls Tryd.prog 72 [(.slice A n c), (b64 v), (.int .i64 ((k : Nat) : Int))].toArray w (Ret (T := Option Addr × Nat) (HA.ids (.row (.slice A n c) 5 1 n (zs.map b8))) w (fun ⟨B, d⟩ => True) (fun ⟨B, d⟩ => (.slice B (n + k) d)) (fun ⟨B, d⟩ => [.row (.slice B (n + k) d) 5 1 (n + k) ((zs ++ highb v k k).map b8)])) := by
 have hF : Wid Fence.wide := wid_wide
 refine enter (c := _) Tryd.func72 rfl (HA.ids (.row (.slice A n c) 5 1 n (zs.map b8))) _ [.row (.slice A n c) 5 1 n (zs.map b8)] (by rw [Tryd.ntmps72]; rfl) (own_one hO rfl rfl) ?_
 rw [Tryd.ntmps72]
 refine T_re [(0, (.slice A n c)), (1, (b64 v)), (2, (.int .i64 ((k : Nat) : Int)))] (sc rfl (sc rfl (sc rfl sn))) ?_
 refine T_he [0] [.row (.slice A n c) 5 1 n (zs.map b8)] ⟨by decide, rfl⟩ ?_
 refine Tsr hF rfl ?_
 refine la rfl rfl rfl rfl rfl ?_
 refine L_nil ?_
 refine T_seq ?_
 refine Tsr hF rfl ?_
 refine lm rfl rfl rfl rfl rfl ?_
 refine lm rfl rfl rfl rfl rfl ?_
 refine L_nil ?_
 refine T_block ?_
 refine T_slot 0 (.slice A n c) (.slice A (n + 0) c) rfl (by first | rfl | (congr 2; omega) | (simp; omega)) ?_
 refine T_as 0 _ (.row (.slice A (n + 0) c) 5 1 (n + 0) ((zs ++ highb v k 0).map b8)) rfl (by simp [highb]) ?_
 refine T_loop (T := Nat × Option Addr × Nat) (fun ⟨j, A1, c1⟩ => j ≤ k) (fun ⟨j, A1, c1⟩ => [(0, (.slice A1 (n + j) c1)), (1, (b64 v)), (2, (.int .i64 ((k : Nat) : Int))), (8, (.int .i64 ((k : Nat) : Int))), (9, (.int .i64 ((j : Nat) : Int)))]) (fun ⟨j, A1, c1⟩ => [.row (.slice A1 (n + j) c1) 5 1 (n + j) ((zs ++ highb v k j).map b8)]) (fun ⟨j, A1, c1⟩ => k - j) (0, A, c) (by first | trivial | ((try dsimp only); first | omega | (refine ⟨?_, ?_⟩ <;> omega) | (refine ⟨?_, ?_, ?_⟩ <;> omega) | (simp; done) | (simp; omega))) (sc rfl (sc rfl (sc rfl (sc rfl (sc rfl sn))))) [0] ⟨by decide, rfl⟩ ?_
 rintro ⟨j, A1, c1⟩ hp
 have hp : j ≤ k := hp
 refine T_re [(0, (.slice A1 (n + j) c1)), (1, (b64 v)), (2, (.int .i64 ((k : Nat) : Int))), (8, (.int .i64 ((k : Nat) : Int))), (9, (.int .i64 ((j : Nat) : Int)))] (sc rfl (sc rfl (sc rfl (sc rfl (sc rfl sn))))) ?_
 refine T_he [0] [.row (.slice A1 (n + j) c1) 5 1 (n + j) ((zs ++ highb v k j).map b8)] ⟨by decide, rfl⟩ ?_
 refine Tsr hF rfl ?_
 refine lo rfl (pr_cmp (bo := .lss) (nc_lt (a := j) (b := k)) rfl rfl rfl rfl) rfl rfl ?_
 refine L_nil ?_
 refine T_seq ?_
 refine T_cond (decide (j < k)) rfl (fun hc_1 => ?_) (fun hc_1 => ?_)
 ·
  have hc_1 := of_decide_eq_true hc_1
  refine T_skip ?_
  refine T_seq ?_
  refine T_block ?_
  refine Tsr hF rfl ?_
  refine lm rfl rfl rfl rfl rfl ?_
  refine la rfl rfl rfl rfl rfl ?_
  refine L_nil ?_
  refine T_reg hF rfl ?_
  refine lm rfl rfl rfl rfl rfl ?_
  refine lm rfl rfl rfl rfl rfl ?_
  refine lm rfl rfl rfl rfl rfl ?_
  refine lo rfl (pr_sub (ns_i64 (a := k) (b := 1) sd sd) rfl rfl rfl) rfl rfl ?_
  refine lm rfl rfl rfl rfl rfl ?_
  refine lo rfl (pr_sub (ns_i64 (a := k - 1) (b := j) sd sd) rfl rfl rfl) rfl rfl ?_
  refine lo rfl (pr_mul (nm_i64 (a := 8) (b := k - 1 - j) sd) rfl rfl rfl) rfl rfl ?_
  refine lo rfl (pr_shift (sh_shr64 v _ (8 * (k - 1 - j))) rfl rfl rfl rfl) rfl rfl ?_
  refine lo rfl (pr_cv (cv64_8 _) Tryd.underlying22 Tryd.underlying5 rfl rfl) rfl rfl ?_
  refine L_op rfl (op_bslice (e := 5) (zs := [(b8 ((v >>> (8 * (k - 1 - j))).setWidth 8))]) (qs := [(0, (b8 ((v >>> (8 * (k - 1 - j))).setWidth 8)))]) (fun _ => by kernel_rfl) rfl rfl rfl rfl (fun g2 => ?_))
  refine L_op rfl (op_append (z := (b8 (0#8))) (size := 1) (bytes := 1) 1 rfl Tryd.underlying29 kr kr (by decide) (src_full (z := 1) 0 rfl rfl sd sd) (by simp [Value.oneCell']) sd sd rfl rfl rfl rfl rfl (fun A3 C4 => ?_))
  refine T_as 0 _ (.row (.slice A3 (n + j + 1) C4) 5 1 (n + j + 1) ((zs ++ highb v k j ++ [((v >>> (8 * (k - 1 - j))).setWidth 8)]).map b8)) rfl (by first | rfl | (congr 1; simp; done) | (simp only [List.map_append]; rfl) | (rw [List.map_append]; rfl)) ?_
  refine la rfl rfl rfl rfl rfl ?_
  refine L_nil ?_
  refine T_reg hF rfl ?_
  refine lo rfl (pr_add (na_i64 (a := j) (b := 1) sd) rfl rfl rfl) rfl rfl ?_
  refine lm rfl rfl rfl rfl rfl ?_
  refine L_nil ?_
  refine T_slot 0 (.slice A3 (n + j + 1) C4) (.slice A3 (n + (j + 1)) C4) rfl (by first | rfl | (congr 2; omega) | (simp; omega)) ?_
  refine T_as 0 _ (.row (.slice A3 (n + (j + 1)) C4) 5 1 (n + (j + 1)) ((zs ++ highb v k (j + 1)).map b8)) rfl (by simp [highb] <;> omega) ?_
  exact T_again (j + 1, A3, C4) (by first | trivial | ((try dsimp only); first | omega | (refine ⟨?_, ?_⟩ <;> omega) | (refine ⟨?_, ?_, ?_⟩ <;> omega) | (simp; done) | (simp; omega))) (by first | trivial | ((try dsimp only); first | omega | (refine ⟨?_, ?_⟩ <;> omega) | (refine ⟨?_, ?_, ?_⟩ <;> omega) | (simp; done) | (simp; omega))) (sc rfl (sc rfl (sc rfl (sc rfl (sc rfl sn))))) [0] ⟨by decide, rfl⟩
 ·
  have hc_1 := of_decide_eq_false hc_1
  refine T_exit rfl ?_
  refine Tsr hF rfl ?_
  refine lm rfl rfl rfl rfl rfl ?_
  refine la rfl rfl rfl rfl rfl ?_
  refine L_nil ?_
  refine T_ret ?_
  obtain rfl : k = j := by omega
  exact T_fin (A1, c1) (by first | trivial | omega | (simp; done)) (res1 rfl rfl) [0] ⟨by decide, rfl⟩ rfl
set_option maxHeartbeats 4000000 in
theorem high_f (xs : List (BitVec 8)) (k : Nat) (A : Option Addr) (n : Nat) (c : Nat) (w : World) (hO : HOK [.rd A 1 n c (xs.map b8)] w) (hk : k ≤ n) (hk8 : k ≤ 8) (hx : xs.length = n) : Calls Tryd.prog 78 [(.slice A n c), (.int .i64 ((k : Nat) : Int))].toArray w (Ret (T := Unit) [] w (fun _ => True) (fun _ => (b64 (high xs k))) (fun _ => [])) := by
 have hF : Wid Fence.wide := wid_wide
 refine enter (c := _) Tryd.func78 rfl [] _ [.rd A 1 n c (xs.map b8)] (by rw [Tryd.ntmps78]; rfl) (own_rds hO rfl) ?_
 rw [Tryd.ntmps78]
 refine T_re [(0, (.slice A n c)), (1, (.int .i64 ((k : Nat) : Int)))] (sc rfl (sc rfl sn)) ?_
 refine T_he [0] [.rd A 1 n c (xs.map b8)] ⟨by decide, rfl⟩ ?_
 refine Tsr hF rfl ?_
 refine la rfl rfl rfl rfl rfl ?_
 refine L_nil ?_
 refine Tsr hF rfl ?_
 refine la rfl rfl rfl rfl rfl ?_
 refine L_nil ?_
 refine T_seq ?_
 refine Tsr hF rfl ?_
 refine lm rfl rfl rfl rfl rfl ?_
 refine lm rfl rfl rfl rfl rfl ?_
 refine L_nil ?_
 refine T_block ?_
 refine T_slot 5 (b64 (0#64)) (b64 (high xs 0)) rfl (rfl) ?_
 refine T_loop (T := Nat) (fun j => j ≤ k) (fun j => [(0, (.slice A n c)), (5, (b64 (high xs j))), (7, (.int .i64 ((k : Nat) : Int))), (8, (.int .i64 ((j : Nat) : Int)))]) (fun j => [.rd A 1 n c (xs.map b8)]) (fun j => k - j) 0 (by first | trivial | ((try dsimp only); first | omega | (refine ⟨?_, ?_⟩ <;> omega) | (refine ⟨?_, ?_, ?_⟩ <;> omega) | (simp; done) | (simp; omega))) (sc rfl (sc rfl (sc rfl (sc rfl sn)))) [0] ⟨by decide, rfl⟩ ?_
 rintro j hp
 have hp : j ≤ k := hp
 refine T_re [(0, (.slice A n c)), (5, (b64 (high xs j))), (7, (.int .i64 ((k : Nat) : Int))), (8, (.int .i64 ((j : Nat) : Int)))] (sc rfl (sc rfl (sc rfl (sc rfl sn)))) ?_
 refine T_he [0] [.rd A 1 n c (xs.map b8)] ⟨by decide, rfl⟩ ?_
 refine Tsr hF rfl ?_
 refine lo rfl (pr_cmp (bo := .lss) (nc_lt (a := j) (b := k)) rfl rfl rfl rfl) rfl rfl ?_
 refine L_nil ?_
 refine T_seq ?_
 refine T_cond (decide (j < k)) rfl (fun hc_1 => ?_) (fun hc_1 => ?_)
 ·
  have hc_1 := of_decide_eq_true hc_1
  refine T_skip ?_
  refine T_seq ?_
  refine T_block ?_
  refine Tsr hF rfl ?_
  refine lm rfl rfl rfl rfl rfl ?_
  refine la rfl rfl rfl rfl rfl ?_
  refine L_nil ?_
  refine T_reg hF rfl ?_
  refine lm rfl rfl rfl rfl rfl ?_
  refine lo rfl (pr_shift (sh_shl64 (high xs j) _ 8) rfl rfl rfl rfl) rfl rfl ?_
  refine lm rfl rfl rfl rfl rfl ?_
  refine lm rfl rfl rfl rfl rfl ?_
  refine lo rfl (pr_ixs1 (j := j) (src_none (src_rd 0 rfl)) sd Tryd.underlying29 kr rfl rfl rfl) rfl rfl ?_
  refine lq rfl (ld_src (m := j) (src_rd 0 rfl) (get8 sd) Tryd.underlying5 rfl rfl rfl) rfl rfl ?_
  refine lo rfl (pr_cv (cv8_64 _) Tryd.underlying5 Tryd.underlying22 rfl rfl) rfl rfl ?_
  refine lo rfl (pr_or (ib_or64 _ _) rfl rfl rfl) rfl rfl ?_
  refine la rfl rfl rfl rfl rfl ?_
  refine L_nil ?_
  refine T_reg hF rfl ?_
  refine lo rfl (pr_add (na_i64 (a := j) (b := 1) sd) rfl rfl rfl) rfl rfl ?_
  refine lm rfl rfl rfl rfl rfl ?_
  refine L_nil ?_
  refine T_slot 5 (b64 (((high xs j) <<< 8) ||| ((ath xs j).setWidth 64))) (b64 (high xs (j + 1))) rfl (rfl) ?_
  exact T_again (j + 1) (by first | trivial | ((try dsimp only); first | omega | (refine ⟨?_, ?_⟩ <;> omega) | (refine ⟨?_, ?_, ?_⟩ <;> omega) | (simp; done) | (simp; omega))) (by first | trivial | ((try dsimp only); first | omega | (refine ⟨?_, ?_⟩ <;> omega) | (refine ⟨?_, ?_, ?_⟩ <;> omega) | (simp; done) | (simp; omega))) (sc rfl (sc rfl (sc rfl (sc rfl sn)))) [0] ⟨by decide, rfl⟩
 ·
  have hc_1 := of_decide_eq_false hc_1
  refine T_exit rfl ?_
  refine Tsr hF rfl ?_
  refine lm rfl rfl rfl rfl rfl ?_
  refine la rfl rfl rfl rfl rfl ?_
  refine L_nil ?_
  refine T_ret ?_
  obtain rfl : k = j := by omega
  exact T_fin () (by first | trivial | omega | (simp; done)) (res1 rfl rfl) [] ⟨by decide, rfl⟩ rfl
end Go.Proofs.YtlplpmkdebemnaaDoor
namespace Go.Proofs.YtlplpmkdebemnaaDoor
set_option linter.unusedVariables false
set_option linter.unusedSimpArgs false
open Bv
/-- The constants. -/
def shaK : List (BitVec 32) := [
  0x428a2f98#32, 0x71374491#32, 0xb5c0fbcf#32, 0xe9b5dba5#32, 0x3956c25b#32, 0x59f111f1#32, 0x923f82a4#32, 0xab1c5ed5#32,
  0xd807aa98#32, 0x12835b01#32, 0x243185be#32, 0x550c7dc3#32, 0x72be5d74#32, 0x80deb1fe#32, 0x9bdc06a7#32, 0xc19bf174#32,
  0xe49b69c1#32, 0xefbe4786#32, 0x0fc19dc6#32, 0x240ca1cc#32, 0x2de92c6f#32, 0x4a7484aa#32, 0x5cb0a9dc#32, 0x76f988da#32,
  0x983e5152#32, 0xa831c66d#32, 0xb00327c8#32, 0xbf597fc7#32, 0xc6e00bf3#32, 0xd5a79147#32, 0x06ca6351#32, 0x14292967#32,
  0x27b70a85#32, 0x2e1b2138#32, 0x4d2c6dfc#32, 0x53380d13#32, 0x650a7354#32, 0x766a0abb#32, 0x81c2c92e#32, 0x92722c85#32,
  0xa2bfe8a1#32, 0xa81a664b#32, 0xc24b8b70#32, 0xc76c51a3#32, 0xd192e819#32, 0xd6990624#32, 0xf40e3585#32, 0x106aa070#32,
  0x19a4c116#32, 0x1e376c08#32, 0x2748774c#32, 0x34b0bcb5#32, 0x391c0cb3#32, 0x4ed8aa4a#32, 0x5b9cca4f#32, 0x682e6ff3#32,
  0x748f82ee#32, 0x78a5636f#32, 0x84c87814#32, 0x8cc70208#32, 0x90befffa#32, 0xa4506ceb#32, 0xbef9a3f7#32, 0xc67178f2#32]
theorem shaK_len : shaK.length = 64 := rfl
def rol32 (x : BitVec 32) (s : Nat) : BitVec 32 := x <<< s ||| x >>> (32 - s)
def ror32 (x : BitVec 32) (n : Nat) : BitVec 32 := x >>> n ||| x <<< (32 - n)
theorem rol_ror (x : BitVec 32) (n : Nat) (h0 : 0 < n) (h1 : n < 32) : rol32 x (32 - n) = ror32 x n := by
  unfold rol32 ror32
  rw [show 32 - (32 - n) = n by omega, BitVec.or_comm]
theorem rol32_and (x : BitVec 32) (s : Nat) (hs : s < 32) : x <<< (BitVec.ofNat 64 s).toNat ||| x >>> (32#64 - BitVec.ofNat 64 s).toNat = rol32 x s := by
  have h1 : (BitVec.ofNat 64 s).toNat = s := by rw [BitVec.toNat_ofNat]; omega
  have h2 : (32#64 - BitVec.ofNat 64 s).toNat = 32 - s := by rw [BitVec.toNat_sub, h1]; simp; omega
  rw [h1, h2]; rfl
/-- What stands behind a message of n bytes. -/
def padb (n : Nat) : List (BitVec 8) := 0x80#8 :: (List.replicate ((119 - n % 64) % 64) 0#8 ++ highb (BitVec.ofNat 64 n * 8#64) 8 8)
def plen (n : Nat) : Nat := 1 + (119 - n % 64) % 64 + 8
theorem padb_len (n : Nat) : (padb n).length = plen n := by unfold padb plen; simp [highb_len]; omega
theorem plen_le (n : Nat) : plen n ≤ 72 := by unfold plen; omega
theorem plen_mod (n : Nat) : (n + plen n) % 64 = 0 := by unfold plen; omega
/-- A list, and zeros behind it up to n. -/
def fil {w : Nat} (xs : List (BitVec w)) (n : Nat) : List (BitVec w) := xs ++ List.replicate (n - xs.length) 0
theorem fil_len {w : Nat} (xs : List (BitVec w)) (n : Nat) (h : xs.length ≤ n) : (fil xs n).length = n := by unfold fil; simp; omega
theorem ath_fil {w : Nat} (xs : List (BitVec w)) (n j : Nat) (h : j < xs.length) : ath (fil xs n) j = ath xs j := ath_app_l _ _ _ h
theorem fil_set {w : Nat} (xs : List (BitVec w)) (n : Nat) (v : BitVec w) (h : xs.length < n) : (fil xs n).set xs.length v = fil (xs ++ [v]) n := by
  unfold fil
  rw [List.set_append_right _ _ (Nat.le_refl _), Nat.sub_self]
  rw [show n - xs.length = (n - (xs ++ [v]).length) + 1 by simp; omega, List.replicate_succ, List.set_cons_zero]
  simp
def sig0 (x : BitVec 32) : BitVec 32 := ror32 x 7 ^^^ ror32 x 18 ^^^ x >>> 3
def sig1 (x : BitVec 32) : BitVec 32 := ror32 x 17 ^^^ ror32 x 19 ^^^ x >>> 10
/-- A word of a block's schedule, out of those ahead of it. -/
def schn (b : List (BitVec 8)) (ws : List (BitVec 32)) (k : Nat) : BitVec 32 :=
  if k < 16 then (high (b.drop (4 * k)) 4).setWidth 32 else ath ws (k - 16) + sig0 (ath ws (k - 15)) + ath ws (k - 7) + sig1 (ath ws (k - 2))
def schw (b : List (BitVec 8)) : Nat → List (BitVec 32)
  | 0 => []
  | k + 1 => schw b k ++ [schn b (schw b k) k]
theorem schw_len (b : List (BitVec 8)) : ∀ k, (schw b k).length = k
  | 0 => rfl
  | k + 1 => by rw [schw, List.length_append, schw_len b k]; rfl
theorem fschw_len (b : List (BitVec 8)) (k : Nat) (h : k ≤ 64) : (fil (schw b k) 64).length = 64 := fil_len _ _ (by rw [schw_len]; exact h)
theorem schw_lo (b : List (BitVec 8)) (k : Nat) (h : k < 16) : (fil (schw b k) 64).set k ((high (b.drop (4 * k)) 4).setWidth 32) = fil (schw b (k + 1)) 64 := by
  have := fil_set (schw b k) 64 (schn b (schw b k) k) (by rw [schw_len]; omega)
  rw [schw_len] at this
  rw [schw, ← this, schn, if_pos h]
theorem schw_hi (b : List (BitVec 8)) (k : Nat) (h : 16 ≤ k) (h2 : k < 64) (v : BitVec 32) (hv : v = ath (fil (schw b k) 64) (k - 16) + sig0 (ath (fil (schw b k) 64) (k - 15)) + ath (fil (schw b k) 64) (k - 7) + sig1 (ath (fil (schw b k) 64) (k - 2))) : (fil (schw b k) 64).set k v = fil (schw b (k + 1)) 64 := by
  have := fil_set (schw b k) 64 (schn b (schw b k) k) (by rw [schw_len]; omega)
  rw [schw_len] at this
  rw [schw, ← this, schn, if_neg (by omega), hv]
  rw [ath_fil _ _ _ (by rw [schw_len]; omega), ath_fil _ _ _ (by rw [schw_len]; omega), ath_fil _ _ _ (by rw [schw_len]; omega), ath_fil _ _ _ (by rw [schw_len]; omega)]
theorem fil_zero (b : List (BitVec 8)) : (List.replicate 64 0#32) = fil (schw b 0) 64 := rfl
/-- A round. -/
def rnd (a : List (BitVec 32)) (k w : BitVec 32) : List (BitVec 32) :=
  [ath a 7 + (ror32 (ath a 4) 6 ^^^ ror32 (ath a 4) 11 ^^^ ror32 (ath a 4) 25) + (ath a 4 &&& ath a 5 ^^^ ~~~ath a 4 &&& ath a 6) + k + w +
    ((ror32 (ath a 0) 2 ^^^ ror32 (ath a 0) 13 ^^^ ror32 (ath a 0) 22) + (ath a 0 &&& ath a 1 ^^^ ath a 0 &&& ath a 2 ^^^ ath a 1 &&& ath a 2)),
   ath a 0, ath a 1, ath a 2,
   ath a 3 + (ath a 7 + (ror32 (ath a 4) 6 ^^^ ror32 (ath a 4) 11 ^^^ ror32 (ath a 4) 25) + (ath a 4 &&& ath a 5 ^^^ ~~~ath a 4 &&& ath a 6) + k + w),
   ath a 4, ath a 5, ath a 6]
def rounds (s ws : List (BitVec 32)) : Nat → List (BitVec 32)
  | 0 => s
  | k + 1 => rnd (rounds s ws k) (ath shaK k) (ath ws k)
theorem rounds_len (s ws : List (BitVec 32)) (h : s.length = 8) : ∀ k, (rounds s ws k).length = 8
  | 0 => h
  | _ + 1 => rfl
def addt (s a : List (BitVec 32)) : Nat → List (BitVec 32)
  | 0 => s
  | k + 1 => (addt s a k).set k (ath (addt s a k) k + ath a k)
theorem addt_len (s a : List (BitVec 32)) : ∀ k, (addt s a k).length = s.length
  | 0 => rfl
  | k + 1 => by rw [addt, List.length_set, addt_len s a k]
/-- A state behind a block. -/
def mixb (s : List (BitVec 32)) (b : List (BitVec 8)) : List (BitVec 32) := addt s (rounds s (schw b 64) 64) 8
theorem rounds_succ (s ws : List (BitVec 32)) (k : Nat) : rounds s ws (k + 1) = rnd (rounds s ws k) (ath shaK k) (ath ws k) := rfl
theorem rounds_zero (s ws : List (BitVec 32)) : rounds s ws 0 = s := rfl
theorem addt_succ (s a : List (BitVec 32)) (k : Nat) : addt s a (k + 1) = (addt s a k).set k (ath (addt s a k) k + ath a k) := rfl
theorem addt_zero (s a : List (BitVec 32)) : addt s a 0 = s := rfl
theorem mixb_def (s : List (BitVec 32)) (b : List (BitVec 8)) : mixb s b = addt s (rounds s (schw b 64) 64) 8 := rfl
theorem fil_all (b : List (BitVec 8)) : fil (schw b 64) 64 = schw b 64 := by unfold fil; rw [schw_len]; simp
theorem sig0_def (x : BitVec 32) : ror32 x 7 ^^^ ror32 x 18 ^^^ x >>> 3 = sig0 x := rfl
theorem sig1_def (x : BitVec 32) : ror32 x 17 ^^^ ror32 x 19 ^^^ x >>> 10 = sig1 x := rfl
theorem mixb_len (s : List (BitVec 32)) (b : List (BitVec 8)) : (mixb s b).length = s.length := addt_len _ _ 8
def shaH : List (BitVec 32) := [0x6a09e667#32, 0xbb67ae85#32, 0x3c6ef372#32, 0xa54ff53a#32, 0x510e527f#32, 0x9b05688c#32, 0x1f83d9ab#32, 0x5be0cd19#32]
/-- The state behind k blocks. -/
def hst (m : List (BitVec 8)) : Nat → List (BitVec 32)
  | 0 => shaH
  | k + 1 => mixb (hst m k) ((m.drop (64 * k)).take 64)
theorem hst_len (m : List (BitVec 8)) : ∀ k, (hst m k).length = 8
  | 0 => rfl
  | k + 1 => by rw [hst, mixb_len, hst_len m k]
theorem hst_zero (m : List (BitVec 8)) : hst m 0 = shaH := rfl
theorem hst_succ (m : List (BitVec 8)) (k : Nat) : hst m (k + 1) = mixb (hst m k) ((m.drop (64 * k)).take 64) := rfl
def shaout (s : List (BitVec 32)) : Nat → List (BitVec 8)
  | 0 => []
  | k + 1 => shaout s k ++ highb ((ath s k).setWidth 64) 4 4
theorem shaout_len (s : List (BitVec 32)) : ∀ k, (shaout s k).length = 4 * k
  | 0 => rfl
  | k + 1 => by rw [shaout, List.length_append, shaout_len s k, highb_len]; omega
theorem shaout_zero (s : List (BitVec 32)) : shaout s 0 = [] := rfl
theorem shaout_succ (s : List (BitVec 32)) (k : Nat) : shaout s (k + 1) = shaout s k ++ highb ((ath s k).setWidth 64) 4 4 := rfl
def shamsg (b : List (BitVec 8)) : List (BitVec 8) := b ++ padb b.length
theorem shamsg_len (b : List (BitVec 8)) : (shamsg b).length = b.length + plen b.length := by unfold shamsg; rw [List.length_append, padb_len]
theorem shamsg_def (b : List (BitVec 8)) : b ++ padb b.length = shamsg b := rfl
/-- SHA-256. -/
def shasum (b : List (BitVec 8)) : List (BitVec 8) := shaout (hst (shamsg b) ((b.length + plen b.length + 64 - 1) / 64)) 8
theorem shasum_def (b : List (BitVec 8)) : shasum b = shaout (hst (shamsg b) ((b.length + plen b.length + 64 - 1) / 64)) 8 := rfl
theorem shasum_len (b : List (BitVec 8)) : (shasum b).length = 32 := shaout_len _ 8
theorem shaH_len : shaH.length = 8 := rfl
theorem shablk (b : List (BitVec 8)) (k : Nat) (hk : k < (b.length + plen b.length + 64 - 1) / 64) : min 64 (b.length + plen b.length - 64 * k) = 64 ∧ (List.take 64 (List.drop (64 * k) (shamsg b))).length = 64 := by
  have h1 := plen_mod b.length
  have h2 := shamsg_len b
  constructor
  · omega
  · rw [List.length_take, List.length_drop, h2]; omega
attribute [irreducible] hst shaout shasum shamsg shaH plen padb
attribute [irreducible] schw rounds addt mixb shaK
end Go.Proofs.YtlplpmkdebemnaaDoor
namespace Go.Proofs.YtlplpmkdebemnaaDoor
set_option linter.unusedVariables false
set_option linter.unusedSimpArgs false
set_option linter.unnecessarySimpa false
set_option maxRecDepth 100000
open Go.RowKit Bv Fw

set_option maxHeartbeats 4000000 in
theorem words_f  (w : World) (hO : HOK [] w)  : Calls Tryd.prog 69 [].toArray w (Ret (T := Unit) [] w (fun _ => True) (fun _ => (.agg (shaK.map b32).toArray)) (fun _ => [])) := by
 have hkl := shaK_len
 have hF : Wid Fence.wide := wid_wide
 refine enter (c := _) Tryd.func69 rfl [] _ [] (by rw [Tryd.ntmps69]; rfl) (own_rds hO rfl) ?_
 rw [Tryd.ntmps69]
 refine T_re [] sn ?_
 refine T_he [] [] ⟨by decide, rfl⟩ ?_
 refine Tsr hF rfl ?_
 refine L_op rfl (op_alloc (z := .agg ((List.replicate 64 0#32).map b32).toArray) (zs := ((List.replicate 64 0#32).map b32)) kr rfl rfl rfl rfl (fun g1 => ?_))
 refine L_nil ?_
 refine Tsr hF rfl ?_
 refine lo rfl (pr_build (qs := [(0, (b32 (1116352408#32))), (1, (b32 (1899447441#32))), (2, (b32 (3049323471#32))), (3, (b32 (3921009573#32))), (4, (b32 (961987163#32))), (5, (b32 (1508970993#32))), (6, (b32 (2453635748#32))), (7, (b32 (2870763221#32))), (8, (b32 (3624381080#32))), (9, (b32 (310598401#32))), (10, (b32 (607225278#32))), (11, (b32 (1426881987#32))), (12, (b32 (1925078388#32))), (13, (b32 (2162078206#32))), (14, (b32 (2614888103#32))), (15, (b32 (3248222580#32))), (16, (b32 (3835390401#32))), (17, (b32 (4022224774#32))), (18, (b32 (264347078#32))), (19, (b32 (604807628#32))), (20, (b32 (770255983#32))), (21, (b32 (1249150122#32))), (22, (b32 (1555081692#32))), (23, (b32 (1996064986#32))), (24, (b32 (2554220882#32))), (25, (b32 (2821834349#32))), (26, (b32 (2952996808#32))), (27, (b32 (3210313671#32))), (28, (b32 (3336571891#32))), (29, (b32 (3584528711#32))), (30, (b32 (113926993#32))), (31, (b32 (338241895#32))), (32, (b32 (666307205#32))), (33, (b32 (773529912#32))), (34, (b32 (1294757372#32))), (35, (b32 (1396182291#32))), (36, (b32 (1695183700#32))), (37, (b32 (1986661051#32))), (38, (b32 (2177026350#32))), (39, (b32 (2456956037#32))), (40, (b32 (2730485921#32))), (41, (b32 (2820302411#32))), (42, (b32 (3259730800#32))), (43, (b32 (3345764771#32))), (44, (b32 (3516065817#32))), (45, (b32 (3600352804#32))), (46, (b32 (4094571909#32))), (47, (b32 (275423344#32))), (48, (b32 (430227734#32))), (49, (b32 (506948616#32))), (50, (b32 (659060556#32))), (51, (b32 (883997877#32))), (52, (b32 (958139571#32))), (53, (b32 (1322822218#32))), (54, (b32 (1537002063#32))), (55, (b32 (1747873779#32))), (56, (b32 (1955562222#32))), (57, (b32 (2024104815#32))), (58, (b32 (2227730452#32))), (59, (b32 (2361852424#32))), (60, (b32 (2428436474#32))), (61, (b32 (2756734187#32))), (62, (b32 (3204031479#32))), (63, (b32 (3329325298#32)))]) (v := .agg ([1116352408#32, 1899447441#32, 3049323471#32, 3921009573#32, 961987163#32, 1508970993#32, 2453635748#32, 2870763221#32, 3624381080#32, 310598401#32, 607225278#32, 1426881987#32, 1925078388#32, 2162078206#32, 2614888103#32, 3248222580#32, 3835390401#32, 4022224774#32, 264347078#32, 604807628#32, 770255983#32, 1249150122#32, 1555081692#32, 1996064986#32, 2554220882#32, 2821834349#32, 2952996808#32, 3210313671#32, 3336571891#32, 3584528711#32, 113926993#32, 338241895#32, 666307205#32, 773529912#32, 1294757372#32, 1396182291#32, 1695183700#32, 1986661051#32, 2177026350#32, 2456956037#32, 2730485921#32, 2820302411#32, 3259730800#32, 3345764771#32, 3516065817#32, 3600352804#32, 4094571909#32, 275423344#32, 430227734#32, 506948616#32, 659060556#32, 883997877#32, 958139571#32, 1322822218#32, 1537002063#32, 1747873779#32, 1955562222#32, 2024104815#32, 2227730452#32, 2361852424#32, 2428436474#32, 2756734187#32, 3204031479#32, 3329325298#32].map b32).toArray) (fun _ => by kernel_rfl) rfl rfl) rfl rfl ?_
 refine L_op rfl (op_sto (n := 64) (vs := ([1116352408#32, 1899447441#32, 3049323471#32, 3921009573#32, 961987163#32, 1508970993#32, 2453635748#32, 2870763221#32, 3624381080#32, 310598401#32, 607225278#32, 1426881987#32, 1925078388#32, 2162078206#32, 2614888103#32, 3248222580#32, 3835390401#32, 4022224774#32, 264347078#32, 604807628#32, 770255983#32, 1249150122#32, 1555081692#32, 1996064986#32, 2554220882#32, 2821834349#32, 2952996808#32, 3210313671#32, 3336571891#32, 3584528711#32, 113926993#32, 338241895#32, 666307205#32, 773529912#32, 1294757372#32, 1396182291#32, 1695183700#32, 1986661051#32, 2177026350#32, 2456956037#32, 2730485921#32, 2820302411#32, 3259730800#32, 3345764771#32, 3516065817#32, 3600352804#32, 4094571909#32, 275423344#32, 430227734#32, 506948616#32, 659060556#32, 883997877#32, 958139571#32, 1322822218#32, 1537002063#32, 1747873779#32, 1955562222#32, 2024104815#32, 2227730452#32, 2361852424#32, 2428436474#32, 2756734187#32, 3204031479#32, 3329325298#32].map b32)) 0 rfl rfl kr (all32_one _) kr kr rfl rfl rfl rfl ?_)
 refine L_nil ?_
 refine T_ret ?_
 refine T_as 0 _ (.blk g1 81 (shaK.map b32)) rfl (by unfold shaK; rfl) ?_
 exact T_fin () (by first | trivial | omega | (simp; done)) (resb 0 rfl rfl rfl Tryd.underlying81 rfl (fwz (n := 64) kr sd)) [] ⟨by decide, rfl⟩ rfl
set_option maxHeartbeats 4000000 in
theorem rwords_f  (w : World) (hO : HOK [] w)  : Calls Tryd.prog 58 [].toArray w (Ret (T := Unit) [] w (fun _ => True) (fun _ => (.agg (shaK.map b32).toArray)) (fun _ => [])) := by
 have hkl := shaK_len
 have hF : Wid Fence.wide := wid_wide
 refine enter (c := _) Tryd.func58 rfl [] _ [] (by rw [Tryd.ntmps58]; rfl) (own_rds hO rfl) ?_
 rw [Tryd.ntmps58]
 refine T_re [] sn ?_
 refine T_he [] [] ⟨by decide, rfl⟩ ?_
 refine Tsr hF rfl ?_
 refine L_op rfl (op_alloc (z := .agg ((List.replicate 64 0#32).map b32).toArray) (zs := ((List.replicate 64 0#32).map b32)) kr rfl rfl rfl rfl (fun g1 => ?_))
 refine L_nil ?_
 refine Tsr hF rfl ?_
 refine lo rfl (pr_build (qs := [(0, (b32 (1116352408#32))), (1, (b32 (1899447441#32))), (2, (b32 (3049323471#32))), (3, (b32 (3921009573#32))), (4, (b32 (961987163#32))), (5, (b32 (1508970993#32))), (6, (b32 (2453635748#32))), (7, (b32 (2870763221#32))), (8, (b32 (3624381080#32))), (9, (b32 (310598401#32))), (10, (b32 (607225278#32))), (11, (b32 (1426881987#32))), (12, (b32 (1925078388#32))), (13, (b32 (2162078206#32))), (14, (b32 (2614888103#32))), (15, (b32 (3248222580#32))), (16, (b32 (3835390401#32))), (17, (b32 (4022224774#32))), (18, (b32 (264347078#32))), (19, (b32 (604807628#32))), (20, (b32 (770255983#32))), (21, (b32 (1249150122#32))), (22, (b32 (1555081692#32))), (23, (b32 (1996064986#32))), (24, (b32 (2554220882#32))), (25, (b32 (2821834349#32))), (26, (b32 (2952996808#32))), (27, (b32 (3210313671#32))), (28, (b32 (3336571891#32))), (29, (b32 (3584528711#32))), (30, (b32 (113926993#32))), (31, (b32 (338241895#32))), (32, (b32 (666307205#32))), (33, (b32 (773529912#32))), (34, (b32 (1294757372#32))), (35, (b32 (1396182291#32))), (36, (b32 (1695183700#32))), (37, (b32 (1986661051#32))), (38, (b32 (2177026350#32))), (39, (b32 (2456956037#32))), (40, (b32 (2730485921#32))), (41, (b32 (2820302411#32))), (42, (b32 (3259730800#32))), (43, (b32 (3345764771#32))), (44, (b32 (3516065817#32))), (45, (b32 (3600352804#32))), (46, (b32 (4094571909#32))), (47, (b32 (275423344#32))), (48, (b32 (430227734#32))), (49, (b32 (506948616#32))), (50, (b32 (659060556#32))), (51, (b32 (883997877#32))), (52, (b32 (958139571#32))), (53, (b32 (1322822218#32))), (54, (b32 (1537002063#32))), (55, (b32 (1747873779#32))), (56, (b32 (1955562222#32))), (57, (b32 (2024104815#32))), (58, (b32 (2227730452#32))), (59, (b32 (2361852424#32))), (60, (b32 (2428436474#32))), (61, (b32 (2756734187#32))), (62, (b32 (3204031479#32))), (63, (b32 (3329325298#32)))]) (v := .agg ([1116352408#32, 1899447441#32, 3049323471#32, 3921009573#32, 961987163#32, 1508970993#32, 2453635748#32, 2870763221#32, 3624381080#32, 310598401#32, 607225278#32, 1426881987#32, 1925078388#32, 2162078206#32, 2614888103#32, 3248222580#32, 3835390401#32, 4022224774#32, 264347078#32, 604807628#32, 770255983#32, 1249150122#32, 1555081692#32, 1996064986#32, 2554220882#32, 2821834349#32, 2952996808#32, 3210313671#32, 3336571891#32, 3584528711#32, 113926993#32, 338241895#32, 666307205#32, 773529912#32, 1294757372#32, 1396182291#32, 1695183700#32, 1986661051#32, 2177026350#32, 2456956037#32, 2730485921#32, 2820302411#32, 3259730800#32, 3345764771#32, 3516065817#32, 3600352804#32, 4094571909#32, 275423344#32, 430227734#32, 506948616#32, 659060556#32, 883997877#32, 958139571#32, 1322822218#32, 1537002063#32, 1747873779#32, 1955562222#32, 2024104815#32, 2227730452#32, 2361852424#32, 2428436474#32, 2756734187#32, 3204031479#32, 3329325298#32].map b32).toArray) (fun _ => by kernel_rfl) rfl rfl) rfl rfl ?_
 refine L_op rfl (op_sto (n := 64) (vs := ([1116352408#32, 1899447441#32, 3049323471#32, 3921009573#32, 961987163#32, 1508970993#32, 2453635748#32, 2870763221#32, 3624381080#32, 310598401#32, 607225278#32, 1426881987#32, 1925078388#32, 2162078206#32, 2614888103#32, 3248222580#32, 3835390401#32, 4022224774#32, 264347078#32, 604807628#32, 770255983#32, 1249150122#32, 1555081692#32, 1996064986#32, 2554220882#32, 2821834349#32, 2952996808#32, 3210313671#32, 3336571891#32, 3584528711#32, 113926993#32, 338241895#32, 666307205#32, 773529912#32, 1294757372#32, 1396182291#32, 1695183700#32, 1986661051#32, 2177026350#32, 2456956037#32, 2730485921#32, 2820302411#32, 3259730800#32, 3345764771#32, 3516065817#32, 3600352804#32, 4094571909#32, 275423344#32, 430227734#32, 506948616#32, 659060556#32, 883997877#32, 958139571#32, 1322822218#32, 1537002063#32, 1747873779#32, 1955562222#32, 2024104815#32, 2227730452#32, 2361852424#32, 2428436474#32, 2756734187#32, 3204031479#32, 3329325298#32].map b32)) 0 rfl rfl kr (all32_one _) kr kr rfl rfl rfl rfl ?_)
 refine L_nil ?_
 refine T_ret ?_
 refine T_as 0 _ (.blk g1 81 (shaK.map b32)) rfl (by unfold shaK; rfl) ?_
 exact T_fin () (by first | trivial | omega | (simp; done)) (resb 0 rfl rfl rfl Tryd.underlying81 rfl (fwz (n := 64) kr sd)) [] ⟨by decide, rfl⟩ rfl
set_option maxHeartbeats 4000000 in
theorem rotl32_f (x : BitVec 32) (k : Int) (s : Nat) (w : World) (hO : HOK [] w) (hs : s < 32) (hk : k % 32 = (s : Int)) : Calls Tryd.prog 79 [(b32 x), (.int .i64 k)].toArray w (Ret (T := Unit) [] w (fun _ => True) (fun _ => (b32 (rol32 x s))) (fun _ => [])) := by
 have hF : Wid Fence.wide := wid_wide
 refine enter (c := _) Tryd.func79 rfl [] _ [] (by rw [Tryd.ntmps79]; rfl) (own_rds hO rfl) ?_
 rw [Tryd.ntmps79]
 refine T_re [(0, (b32 x)), (1, (.int .i64 k))] (sc rfl (sc rfl sn)) ?_
 refine T_he [] [] ⟨by decide, rfl⟩ ?_
 refine Tsr hF rfl ?_
 refine la rfl rfl rfl rfl rfl ?_
 refine L_nil ?_
 refine Tsr hF rfl ?_
 refine lm rfl rfl rfl rfl rfl ?_
 refine lo rfl (pr_cv (zc_u64 k) Tryd.underlying3 Tryd.underlying57 rfl rfl) rfl rfl ?_
 refine lo rfl (pr_and (ib_and64 _ (31#64)) rfl rfl rfl) rfl rfl ?_
 refine la rfl rfl rfl rfl rfl ?_
 refine L_nil ?_
 refine Tsr hF rfl ?_
 refine lm rfl rfl rfl rfl rfl ?_
 refine lm rfl rfl rfl rfl rfl ?_
 refine lo rfl (pr_shift (sh_shl32 x _ (((BitVec.ofInt 64 k) &&& 31#64).toNat)) rfl rfl rfl rfl) rfl rfl ?_
 refine lm rfl rfl rfl rfl rfl ?_
 refine lm rfl rfl rfl rfl rfl ?_
 refine lo rfl (pr_sub (sub64 (32#64) _) rfl rfl rfl) rfl rfl ?_
 refine lo rfl (pr_shift (sh_shr32 x _ ((32#64 - ((BitVec.ofInt 64 k) &&& 31#64)).toNat)) rfl rfl rfl rfl) rfl rfl ?_
 refine lo rfl (pr_or (ib_or32 _ _) rfl rfl rfl) rfl rfl ?_
 refine la rfl rfl rfl rfl rfl ?_
 refine L_nil ?_
 refine T_ret ?_
 refine T_slot 4 _ (b32 (rol32 x s)) rfl (by rw [rot_and k s hs hk]; exact congrArg b32 (rol32_and x s hs)) ?_
 exact T_fin () (by first | trivial | omega | (simp; done)) (res1 rfl rfl) [] ⟨by decide, rfl⟩ rfl
set_option maxHeartbeats 4000000 in
theorem rotated_f (x : BitVec 32) (n : Nat) (w : World) (hO : HOK [] w) (h0 : 0 < n) (h1 : n < 32) : Calls Tryd.prog 77 [(b32 x), (.int .i64 ((n : Nat) : Int))].toArray w (Ret (T := Unit) [] w (fun _ => True) (fun _ => (b32 (ror32 x n))) (fun _ => [])) := by
 have hF : Wid Fence.wide := wid_wide
 refine enter (c := _) Tryd.func77 rfl [] _ [] (by rw [Tryd.ntmps77]; rfl) (own_rds hO rfl) ?_
 rw [Tryd.ntmps77]
 refine T_re [(0, (b32 x)), (1, (.int .i64 ((n : Nat) : Int)))] (sc rfl (sc rfl sn)) ?_
 refine T_he [] [] ⟨by decide, rfl⟩ ?_
 refine Tsr hF rfl ?_
 refine la rfl rfl rfl rfl rfl ?_
 refine L_nil ?_
 refine Tsr hF rfl ?_
 refine lm rfl rfl rfl rfl rfl ?_
 refine lm rfl rfl rfl rfl rfl ?_
 refine lo rfl (pr_un (un_negi (a := n) sd) rfl rfl) rfl rfl ?_
 refine L_op rfl (op_cn (fun w hw => rotl32_f x (-((n : Nat) : Int)) (32 - n) w (hok_nil w) sd (by omega)) (enters_of Tryd.func79 kr rfl) rfl rfl rfl rfl rfl (fun t1 q2 => ?_))
 refine la rfl rfl rfl rfl rfl ?_
 refine L_nil ?_
 refine T_ret ?_
 refine T_slot 4 (b32 (rol32 x (32 - n))) (b32 (ror32 x n)) rfl (by rw [rol_ror x n h0 h1]) ?_
 exact T_fin () (by first | trivial | omega | (simp; done)) (res1 rfl rfl) [] ⟨by decide, rfl⟩ rfl
set_option maxHeartbeats 4000000 in
theorem turn_f (x : BitVec 32) (n : Nat) (w : World) (hO : HOK [] w) (h0 : 0 < n) (h1 : n < 32) : Calls Tryd.prog 60 [(b32 x), (.int .i64 ((n : Nat) : Int))].toArray w (Ret (T := Unit) [] w (fun _ => True) (fun _ => (b32 (ror32 x n))) (fun _ => [])) := by
 have hF : Wid Fence.wide := wid_wide
 refine enter (c := _) Tryd.func60 rfl [] _ [] (by rw [Tryd.ntmps60]; rfl) (own_rds hO rfl) ?_
 rw [Tryd.ntmps60]
 refine T_re [(0, (b32 x)), (1, (.int .i64 ((n : Nat) : Int)))] (sc rfl (sc rfl sn)) ?_
 refine T_he [] [] ⟨by decide, rfl⟩ ?_
 refine Tsr hF rfl ?_
 refine la rfl rfl rfl rfl rfl ?_
 refine L_nil ?_
 refine Tsr hF rfl ?_
 refine lm rfl rfl rfl rfl rfl ?_
 refine lm rfl rfl rfl rfl rfl ?_
 refine lo rfl (pr_cv (ni_u64 (a := n) sd) Tryd.underlying3 Tryd.underlying57 rfl rfl) rfl rfl ?_
 refine lo rfl (pr_shift (sh_shr32 x _ n) rfl rfl rfl rfl) rfl rfl ?_
 refine lm rfl rfl rfl rfl rfl ?_
 refine lm rfl rfl rfl rfl rfl ?_
 refine lo rfl (pr_sub (ns_i64 (a := 32) (b := n) sd sd) rfl rfl rfl) rfl rfl ?_
 refine lo rfl (pr_cv (ni_u64 (a := 32 - n) sd) Tryd.underlying3 Tryd.underlying57 rfl rfl) rfl rfl ?_
 refine lo rfl (pr_shift (sh_shl32 x _ (32 - n)) rfl rfl rfl rfl) rfl rfl ?_
 refine lo rfl (pr_or (ib_or32 _ _) rfl rfl rfl) rfl rfl ?_
 refine la rfl rfl rfl rfl rfl ?_
 refine L_nil ?_
 refine T_ret ?_
 refine T_slot 4 (b32 ((x >>> n) ||| (x <<< (32 - n)))) (b32 (ror32 x n)) rfl (by rfl) ?_
 exact T_fin () (by first | trivial | omega | (simp; done)) (res1 rfl rfl) [] ⟨by decide, rfl⟩ rfl
set_option maxHeartbeats 4000000 in
theorem pad_f (n : Nat) (w : World) (hO : HOK [] w) (hn : n ≤ 1100000000000) : Calls Tryd.prog 68 [(.int .i64 ((n : Nat) : Int))].toArray w (Ret (T := Option Addr × Nat) [] w (fun ⟨B, d⟩ => True) (fun ⟨B, d⟩ => (.slice B (plen n) d)) (fun ⟨B, d⟩ => [.row (.slice B (plen n) d) 5 1 (plen n) ((padb n).map b8)])) := by
 have hF : Wid Fence.wide := wid_wide
 refine enter (c := _) Tryd.func68 rfl [] _ [] (by rw [Tryd.ntmps68]; rfl) (own_rds hO rfl) ?_
 rw [Tryd.ntmps68]
 refine T_re [(0, (.int .i64 ((n : Nat) : Int)))] (sc rfl sn) ?_
 refine T_he [] [] ⟨by decide, rfl⟩ ?_
 refine Tsr hF rfl ?_
 refine la rfl rfl rfl rfl rfl ?_
 refine L_nil ?_
 refine Tsr hF rfl ?_
 refine lm rfl rfl rfl rfl rfl ?_
 refine lo rfl ((pr_as (pr_max rfl rfl rfl) (nmax (k := .i64) (a := n) (b := 0)))) rfl rfl ?_
 refine la rfl rfl rfl rfl rfl ?_
 refine L_nil ?_
 refine Tsr hF rfl ?_
 refine L_op rfl (op_bslice (e := 5) (zs := [(b8 (128#8))]) (qs := [(0, (b8 (128#8)))]) (fun _ => by kernel_rfl) rfl rfl rfl rfl (fun g1 => ?_))
 refine lm rfl rfl rfl rfl rfl ?_
 refine lo rfl (pr_rem (a := max n 0) (b := 64) sd rfl rfl rfl) rfl rfl ?_
 refine lo rfl (pr_sub (ns_i64 (a := 119) (b := (max n 0) % 64) sd sd) rfl rfl rfl) rfl rfl ?_
 refine lo rfl (pr_rem (a := 119 - ((max n 0) % 64)) (b := 64) sd rfl rfl rfl) rfl rfl ?_
 refine T_rowb 0 (zs := [(b8 (128#8))]) 1 1 1 rfl sd sd rfl rfl ?_
 refine L_op rfl (op_append0 (z := (b8 (0#8))) (bytes := 1) (m := (119 - ((max n 0) % 64)) % 64) 0 rfl Tryd.underlying29 Tryd.underlying3 kr rfl rfl sd sd rfl rfl rfl rfl rfl (fun A2 C3 => ?_))
 refine T_as 0 _ (.row (.slice A2 (1 + ((119 - ((max n 0) % 64)) % 64)) C3) 5 1 (1 + ((119 - ((max n 0) % 64)) % 64)) (([128#8] ++ (List.replicate ((119 - ((max n 0) % 64)) % 64) 0#8)).map b8)) rfl (by first | rfl | (congr 1; simp)) ?_
 refine la rfl rfl rfl rfl rfl ?_
 refine L_nil ?_
 refine Tsr hF rfl ?_
 refine lm rfl rfl rfl rfl rfl ?_
 refine lm rfl rfl rfl rfl rfl ?_
 refine lo rfl (pr_cv (nw64 (max n 0)) Tryd.underlying3 Tryd.underlying22 rfl rfl) rfl rfl ?_
 refine lo rfl (pr_mul (mul64 _ (8#64)) rfl rfl rfl) rfl rfl ?_
 refine L_op rfl (op_c1 0 rfl (fun w hw => putHigh_f ([128#8] ++ (List.replicate ((119 - ((max n 0) % 64)) % 64) 0#8)) ((BitVec.ofNat 64 (max n 0)) * 8#64) 8 A2 (1 + ((119 - ((max n 0) % 64)) % 64)) C3 w (hw _ (List.mem_of_getElem? (i := 0) rfl)) sd sd) (enters_of Tryd.func72 kr rfl) rfl rfl rfl rfl rfl (fun t4 q5 => ?_))
 obtain ⟨B6, d7⟩ := t4
 refine la rfl rfl rfl rfl rfl ?_
 refine L_nil ?_
 refine T_ret ?_
 refine T_slot 2 (.slice B6 ((1 + ((119 - ((max n 0) % 64)) % 64)) + 8) d7) (.slice B6 (plen n) d7) rfl (by simp [plen]) ?_
 refine T_as 0 _ (.row (.slice B6 (plen n) d7) 5 1 (plen n) ((padb n).map b8)) rfl (by simp [padb, plen]) ?_
 exact T_fin (B6, d7) (by first | trivial | omega | (simp; done)) (res1 rfl rfl) [0] ⟨by decide, rfl⟩ rfl
end Go.Proofs.YtlplpmkdebemnaaDoor
namespace Go.Proofs.YtlplpmkdebemnaaDoor
set_option linter.unusedVariables false
set_option linter.unusedSimpArgs false
set_option linter.unnecessarySimpa false
set_option maxRecDepth 100000
open Go.RowKit Bv Fw

set_option maxHeartbeats 4000000 in
theorem schedule_f (b : List (BitVec 8)) (A : Option Addr) (c : Nat) (w : World) (hO : HOK [.rd A 1 64 c (b.map b8)] w) (hb : b.length = 64) : Calls Tryd.prog 76 [(.slice A 64 c)].toArray w (Ret (T := Unit) [] w (fun _ => True) (fun _ => (.agg ((schw b 64).map b32).toArray)) (fun _ => [])) := by
 have hwl := schw_len b 64
 have hF : Wid Fence.wide := wid_wide
 refine enter (c := _) Tryd.func76 rfl [] _ [.rd A 1 64 c (b.map b8)] (by rw [Tryd.ntmps76]; rfl) (own_rds hO rfl) ?_
 rw [Tryd.ntmps76]
 refine T_re [(0, (.slice A 64 c))] (sc rfl sn) ?_
 refine T_he [0] [.rd A 1 64 c (b.map b8)] ⟨by decide, rfl⟩ ?_
 refine Tsr hF rfl ?_
 refine L_op rfl (op_alloc (z := .agg ((List.replicate 64 0#32).map b32).toArray) (zs := ((List.replicate 64 0#32).map b32)) kr rfl rfl rfl rfl (fun g1 => ?_))
 refine L_nil ?_
 refine T_scope rfl ?_
 refine Tsr hF rfl ?_
 refine L_op rfl (op_alloc (z := .agg ((List.replicate 64 0#32).map b32).toArray) (zs := ((List.replicate 64 0#32).map b32)) kr rfl rfl rfl rfl (fun g2 => ?_))
 refine L_nil ?_
 refine T_seq ?_
 refine T_label ?_
 refine T_seq ?_
 refine Tsr hF rfl ?_
 refine lm rfl rfl rfl rfl rfl ?_
 refine L_nil ?_
 refine T_block ?_
 refine T_as 0 _ (.blk g2 81 ((fil (schw b 0) 64).map b32)) rfl (by rw [← fil_zero]) ?_
 refine T_loop (T := Nat) (fun k => k ≤ 64) (fun k => [(0, (.slice A 64 c)), (2, (.pointer (some ⟨g1, 0, none⟩))), (3, (.pointer (some ⟨g2, 0, none⟩))), (7, (.int .i64 ((k : Nat) : Int)))]) (fun k => [.blk g2 81 ((fil (schw b k) 64).map b32), .blk g1 81 ((List.replicate 64 0#32).map b32), .rd A 1 64 c (b.map b8)]) (fun k => 64 - k) 0 (by first | trivial | ((try dsimp only); first | omega | (refine ⟨?_, ?_⟩ <;> omega) | (refine ⟨?_, ?_, ?_⟩ <;> omega) | (simp; done) | (simp; omega))) (sc rfl (sc rfl (sc rfl (sc rfl sn)))) [0, 1, 2] ⟨by decide, rfl⟩ ?_
 rintro k hp
 have hp : k ≤ 64 := hp
 have hl := fschw_len b k hp
 refine T_re [(0, (.slice A 64 c)), (2, (.pointer (some ⟨g1, 0, none⟩))), (3, (.pointer (some ⟨g2, 0, none⟩))), (7, (.int .i64 ((k : Nat) : Int)))] (sc rfl (sc rfl (sc rfl (sc rfl sn)))) ?_
 refine T_he [0, 1, 2] [.blk g2 81 ((fil (schw b k) 64).map b32), .blk g1 81 ((List.replicate 64 0#32).map b32), .rd A 1 64 c (b.map b8)] ⟨by decide, rfl⟩ ?_
 refine Tsr hF rfl ?_
 refine lo rfl (pr_cmp (bo := .lss) (nc_lt (a := k) (b := 64)) rfl rfl rfl rfl) rfl rfl ?_
 refine L_nil ?_
 refine T_seq ?_
 refine T_cond (decide (k < 64)) rfl (fun hc_3 => ?_) (fun hc_3 => ?_)
 ·
  have hc_3 := of_decide_eq_true hc_3
  refine T_skip ?_
  refine T_seq ?_
  refine T_block ?_
  refine Tsr hF rfl ?_
  refine lm rfl rfl rfl rfl rfl ?_
  refine la rfl rfl rfl rfl rfl ?_
  refine L_nil ?_
  refine T_seq ?_
  refine Tsr hF rfl ?_
  refine lm rfl rfl rfl rfl rfl ?_
  refine lo rfl (pr_cmp (bo := .lss) (nc_lt (a := k) (b := 16)) rfl rfl rfl rfl) rfl rfl ?_
  refine L_nil ?_
  refine T_cond (decide (k < 16)) rfl (fun hc_4 => ?_) (fun hc_4 => ?_)
  ·
   have hc_4 := of_decide_eq_true hc_4
   refine Tsr hF rfl ?_
   refine lm rfl rfl rfl rfl rfl ?_
   refine lm rfl rfl rfl rfl rfl ?_
   refine lm rfl rfl rfl rfl rfl ?_
   refine lo rfl (pr_mul (nm_i64 (a := 4) (b := k) sd) rfl rfl rfl) rfl rfl ?_
   refine L_op rfl (op_slice_rd (l := 4 * k) (u := 64) 2 rfl sd sd Tryd.underlying29 kr rfl rfl ⟨_, rfl⟩ rfl rfl rfl (fun B5 => ?_))
   refine T_as 0 _ (.rd B5 1 (64 - (4 * k)) (c - (4 * k)) ((List.drop (4 * k) b).map b8)) rfl (by congr 1; first | rfl | (rw [List.take_of_length_le (by simp; omega)]; simp)) ?_
   refine L_op rfl (op_cn (fun w hw => high_f (List.drop (4 * k) b) 4 B5 (64 - (4 * k)) (c - (4 * k)) w (hok_cons ((src_rd 0 rfl) w hw) (hok_nil w)) sd sd sd) (enters_of Tryd.func78 kr rfl) rfl rfl rfl rfl rfl (fun t6 q7 => ?_))
   refine lo rfl (pr_cv (cv64_32 _) Tryd.underlying22 Tryd.underlying25 rfl rfl) rfl rfl ?_
   refine lo rfl (pr_ixa (j := k) (m' := k) sd (by omega) Tryd.underlying81 (z := 1) kr rfl rfl rfl) rfl rfl ?_
   refine L_op rfl (op_store (vs := [(b32 ((high (List.drop (4 * k) b) 4).setWidth 32))]) (cs' := ((List.set (fil (schw b k) 64) k ((high (List.drop (4 * k) b) 4).setWidth 32)).map b32)) 1 rfl rfl kr (one_one rfl) (stl sd) (splice_map (f := b32) sd) rfl rfl rfl rfl ?_)
   refine L_nil ?_
   refine T_exit rfl ?_
   refine T_reg hF rfl ?_
   refine lo rfl (pr_add (na_i64 (a := k) (b := 1) sd) rfl rfl rfl) rfl rfl ?_
   refine lm rfl rfl rfl rfl rfl ?_
   refine L_nil ?_
   refine T_as 0 _ (.blk g2 81 ((fil (schw b (k + 1)) 64).map b32)) rfl (by rw [schw_lo b k (by omega)]) ?_
   exact T_again (k + 1) (by first | trivial | ((try dsimp only); first | omega | (refine ⟨?_, ?_⟩ <;> omega) | (refine ⟨?_, ?_, ?_⟩ <;> omega) | (simp; done) | (simp; omega))) (by first | trivial | ((try dsimp only); first | omega | (refine ⟨?_, ?_⟩ <;> omega) | (refine ⟨?_, ?_, ?_⟩ <;> omega) | (simp; done) | (simp; omega))) (sc rfl (sc rfl (sc rfl (sc rfl sn)))) [0, 2, 3] ⟨by decide, rfl⟩
  ·
   have hc_4 := of_decide_eq_false hc_4
   refine T_skip ?_
   refine T_seq ?_
   refine T_regD [.blk g2 81 ((fil (schw b k) 64).map b32), .blk g1 81 ((List.replicate 64 0#32).map b32), .rd A 1 64 c (b.map b8)] 10 10 #[false, false, false, false, false, false, false, false, false, false] hF kr kr ?_
   refine D_pure (i := 0) [0, 1, 2] rfl kr rfl (pr_move rfl rfl) (.inr rfl) rfl rfl ?_
   refine D_pure (i := 1) [0, 1, 2] rfl kr rfl (pr_sub (ns_i64 (a := k) (b := 15) sd sd) rfl rfl rfl) (.inr rfl) rfl rfl ?_
   refine D_pure (i := 2) [0, 1, 2] rfl kr rfl (pr_ixa (j := k - 15) (m' := k - 15) sd (by omega) Tryd.underlying81 (z := 1) kr rfl rfl rfl) (.inr rfl) rfl rfl ?_
   refine D_pure (i := 4) [0, 1, 2] rfl kr rfl (pr_move rfl rfl) (.inr rfl) rfl rfl ?_
   refine D_pure (i := 5) [0, 1, 2] rfl kr rfl (pr_sub (ns_i64 (a := k) (b := 2) sd sd) rfl rfl rfl) (.inr rfl) rfl rfl ?_
   refine D_pure (i := 6) [0, 1, 2] rfl kr rfl (pr_ixa (j := k - 2) (m' := k - 2) sd (by omega) Tryd.underlying81 (z := 1) kr rfl rfl rfl) (.inr rfl) rfl rfl ?_
   refine D_take (i := 3) [0, 1, 2] rfl kr rfl (ld_blk 0 rfl (get32 sd) Tryd.underlying25 rfl rfl rfl) rfl rfl rfl ?_
   refine D_pure (i := 8) [0, 1, 2] rfl kr rfl (pr_assign rfl rfl) (.inr rfl) rfl rfl ?_
   refine D_take (i := 7) [0, 1, 2] rfl kr rfl (ld_blk 0 rfl (get32 sd) Tryd.underlying25 rfl rfl rfl) rfl rfl rfl ?_
   refine D_pure (i := 9) [0, 1, 2] rfl kr rfl (pr_assign rfl rfl) (.inr rfl) rfl rfl ?_
   refine D_done kr ?_
   refine T_regD [.blk g2 81 ((fil (schw b k) 64).map b32), .blk g1 81 ((List.replicate 64 0#32).map b32), .rd A 1 64 c (b.map b8)] 29 30 #[false, false, false, false, false, false, false, false, false, false, false, false, false, false, false, false, false, false, false, false, false, false, false, false, false, false, false, false, false, false] hF kr kr ?_
   refine D_pure (i := 0) [0, 1, 2] rfl kr rfl (pr_move rfl rfl) (.inr rfl) rfl rfl ?_
   refine D_pure (i := 1) [0, 1, 2] rfl kr rfl (pr_move rfl rfl) (.inr rfl) rfl rfl ?_
   refine D_pure (i := 2) [0, 1, 2] rfl kr rfl (pr_sub (ns_i64 (a := k) (b := 16) sd sd) rfl rfl rfl) (.inr rfl) rfl rfl ?_
   refine D_pure (i := 3) [0, 1, 2] rfl kr rfl (pr_ixa (j := k - 16) (m' := k - 16) sd (by omega) Tryd.underlying81 (z := 1) kr rfl rfl rfl) (.inr rfl) rfl rfl ?_
   refine D_pure (i := 5) [0, 1, 2] rfl kr rfl (pr_move rfl rfl) (.inr rfl) rfl rfl ?_
   refine D_pure (i := 7) [0, 1, 2] rfl kr rfl (pr_move rfl rfl) (.inr rfl) rfl rfl ?_
   refine D_pure (i := 10) [0, 1, 2] rfl kr rfl (pr_move rfl rfl) (.inr rfl) rfl rfl ?_
   refine D_pure (i := 11) [0, 1, 2] rfl kr rfl (pr_shift (sh_shr32 (ath (fil (schw b k) 64) (k - 15)) _ 3) rfl rfl rfl rfl) (.inr rfl) rfl rfl ?_
   refine D_pure (i := 14) [0, 1, 2] rfl kr rfl (pr_move rfl rfl) (.inr rfl) rfl rfl ?_
   refine D_pure (i := 15) [0, 1, 2] rfl kr rfl (pr_sub (ns_i64 (a := k) (b := 7) sd sd) rfl rfl rfl) (.inr rfl) rfl rfl ?_
   refine D_pure (i := 16) [0, 1, 2] rfl kr rfl (pr_ixa (j := k - 7) (m' := k - 7) sd (by omega) Tryd.underlying81 (z := 1) kr rfl rfl rfl) (.inr rfl) rfl rfl ?_
   refine D_pure (i := 19) [0, 1, 2] rfl kr rfl (pr_move rfl rfl) (.inr rfl) rfl rfl ?_
   refine D_pure (i := 21) [0, 1, 2] rfl kr rfl (pr_move rfl rfl) (.inr rfl) rfl rfl ?_
   refine D_pure (i := 24) [0, 1, 2] rfl kr rfl (pr_move rfl rfl) (.inr rfl) rfl rfl ?_
   refine D_pure (i := 25) [0, 1, 2] rfl kr rfl (pr_shift (sh_shr32 (ath (fil (schw b k) 64) (k - 2)) _ 10) rfl rfl rfl rfl) (.inr rfl) rfl rfl ?_
   refine D_take (i := 4) [0, 1, 2] rfl kr rfl (ld_blk 0 rfl (get32 sd) Tryd.underlying25 rfl rfl rfl) rfl rfl rfl ?_
   refine D_take (i := 17) [0, 1, 2] rfl kr rfl (ld_blk 0 rfl (get32 sd) Tryd.underlying25 rfl rfl rfl) rfl rfl rfl ?_
   refine D_one 6 _ rfl kr rfl (op_cn (fun w hw => rotated_f (ath (fil (schw b k) 64) (k - 15)) 7 w (hok_nil w) sd sd) (enters_of Tryd.func77 kr rfl) rfl rfl rfl rfl rfl (fun t8 q9 => ?_))
   refine D_on [0, 1, 2] rfl ?_
   refine D_one 8 _ rfl kr rfl (op_cn (fun w hw => rotated_f (ath (fil (schw b k) 64) (k - 15)) 18 w (hok_nil w) sd sd) (enters_of Tryd.func77 kr rfl) rfl rfl rfl rfl rfl (fun t10 q11 => ?_))
   refine D_on [0, 1, 2] rfl ?_
   refine D_pure (i := 9) [0, 1, 2] rfl kr rfl (pr_xor (ib_xor32 _ _) rfl rfl rfl) (.inr rfl) rfl rfl ?_
   refine D_pure (i := 12) [0, 1, 2] rfl kr rfl (pr_xor (ib_xor32 _ _) rfl rfl rfl) (.inr rfl) rfl rfl ?_
   refine D_pure (i := 13) [0, 1, 2] rfl kr rfl (pr_add (add32 _ _) rfl rfl rfl) (.inr rfl) rfl rfl ?_
   refine D_pure (i := 18) [0, 1, 2] rfl kr rfl (pr_add (add32 _ _) rfl rfl rfl) (.inr rfl) rfl rfl ?_
   refine D_one 20 _ rfl kr rfl (op_cn (fun w hw => rotated_f (ath (fil (schw b k) 64) (k - 2)) 17 w (hok_nil w) sd sd) (enters_of Tryd.func77 kr rfl) rfl rfl rfl rfl rfl (fun t12 q13 => ?_))
   refine D_on [0, 1, 2] rfl ?_
   refine D_one 22 _ rfl kr rfl (op_cn (fun w hw => rotated_f (ath (fil (schw b k) 64) (k - 2)) 19 w (hok_nil w) sd sd) (enters_of Tryd.func77 kr rfl) rfl rfl rfl rfl rfl (fun t14 q15 => ?_))
   refine D_on [0, 1, 2] rfl ?_
   refine D_pure (i := 23) [0, 1, 2] rfl kr rfl (pr_xor (ib_xor32 _ _) rfl rfl rfl) (.inr rfl) rfl rfl ?_
   refine D_pure (i := 26) [0, 1, 2] rfl kr rfl (pr_xor (ib_xor32 _ _) rfl rfl rfl) (.inr rfl) rfl rfl ?_
   refine D_pure (i := 27) [0, 1, 2] rfl kr rfl (pr_add (add32 _ _) rfl rfl rfl) (.inr rfl) rfl rfl ?_
   refine D_pure (i := 28) [0, 1, 2] rfl kr rfl (pr_ixa (j := k) (m' := k) sd (by omega) Tryd.underlying81 (z := 1) kr rfl rfl rfl) (.inr rfl) rfl rfl ?_
   refine D_one 29 _ rfl kr rfl (op_store (vs := [(b32 ((((ath (fil (schw b k) 64) (k - 16)) + (((ror32 (ath (fil (schw b k) 64) (k - 15)) 7) ^^^ (ror32 (ath (fil (schw b k) 64) (k - 15)) 18)) ^^^ ((ath (fil (schw b k) 64) (k - 15)) >>> 3))) + (ath (fil (schw b k) 64) (k - 7))) + (((ror32 (ath (fil (schw b k) 64) (k - 2)) 17) ^^^ (ror32 (ath (fil (schw b k) 64) (k - 2)) 19)) ^^^ ((ath (fil (schw b k) 64) (k - 2)) >>> 10))))]) (cs' := ((List.set (fil (schw b k) 64) k ((((ath (fil (schw b k) 64) (k - 16)) + (((ror32 (ath (fil (schw b k) 64) (k - 15)) 7) ^^^ (ror32 (ath (fil (schw b k) 64) (k - 15)) 18)) ^^^ ((ath (fil (schw b k) 64) (k - 15)) >>> 3))) + (ath (fil (schw b k) 64) (k - 7))) + (((ror32 (ath (fil (schw b k) 64) (k - 2)) 17) ^^^ (ror32 (ath (fil (schw b k) 64) (k - 2)) 19)) ^^^ ((ath (fil (schw b k) 64) (k - 2)) >>> 10)))).map b32)) 0 rfl rfl kr (one_one rfl) (stl sd) (splice_map (f := b32) sd) rfl rfl rfl rfl ?_)
   refine D_past kr ?_
   refine D_done kr ?_
   refine T_reg hF rfl ?_
   refine lo rfl (pr_add (na_i64 (a := k) (b := 1) sd) rfl rfl rfl) rfl rfl ?_
   refine lm rfl rfl rfl rfl rfl ?_
   refine L_nil ?_
   refine T_as 0 _ (.blk g2 81 ((fil (schw b (k + 1)) 64).map b32)) rfl (by rw [sig0_def, sig1_def, schw_hi b k (by omega) (by omega) _ rfl]) ?_
   exact T_again (k + 1) (by first | trivial | ((try dsimp only); first | omega | (refine ⟨?_, ?_⟩ <;> omega) | (refine ⟨?_, ?_, ?_⟩ <;> omega) | (simp; done) | (simp; omega))) (by first | trivial | ((try dsimp only); first | omega | (refine ⟨?_, ?_⟩ <;> omega) | (refine ⟨?_, ?_, ?_⟩ <;> omega) | (simp; done) | (simp; omega))) (sc rfl (sc rfl (sc rfl (sc rfl sn)))) [0, 1, 2] ⟨by decide, rfl⟩
 ·
  have hc_3 := of_decide_eq_false hc_3
  refine T_exit rfl ?_
  refine Tsr hF rfl ?_
  refine lq rfl (ld_agg (ds := ((fil (schw b k) 64).map b32)) 0 rfl agg_all Tryd.underlying81 rfl (fwz (n := 64) kr sd) rfl rfl) rfl rfl ?_
  refine L_op rfl (op_sto (n := 64) (vs := ((fil (schw b k) 64).map b32)) 1 rfl rfl kr (all32_one _) kr sd rfl rfl rfl rfl ?_)
  refine L_nil ?_
  refine T_ret ?_
  obtain rfl : 64 = k := by omega
  refine T_as 0 _ (.blk g1 81 ((schw b 64).map b32)) rfl (by rw [fil_all]) ?_
  exact T_fin () (by first | trivial | omega | (simp; done)) (resb 0 rfl rfl rfl Tryd.underlying81 rfl (fwz (n := 64) kr sd)) [] ⟨by decide, rfl⟩ rfl
set_option maxHeartbeats 4000000 in
theorem mixed_f (s : List (BitVec 32)) (gk : Nat) (b : List (BitVec 8)) (A : Option Addr) (c : Nat) (w : World) (hO : HOK [.rd (some ⟨gk, 0, none⟩) 1 64 64 (shaK.map b32), .rd A 1 64 c (b.map b8)] w) (hs : s.length = 8) (hb : b.length = 64) : Calls Tryd.prog 71 [(.agg (s.map b32).toArray), (.pointer (some ⟨gk, 0, none⟩)), (.slice A 64 c)].toArray w (Ret (T := Unit) [] w (fun _ => True) (fun _ => (.agg ((mixb s b).map b32).toArray)) (fun _ => [])) := by
 have hwl := schw_len b 64
 have hmx := (mixb_len s b).trans hs
 have hkl : shaK.length = 64 := shaK_len
 have hrl := rounds_len s (schw b 64) hs
 have hal := fun a k => (addt_len s a k).trans hs
 have hF : Wid Fence.wide := wid_wide
 refine enter (c := _) Tryd.func71 rfl [] _ [.rd (some ⟨gk, 0, none⟩) 1 64 64 (shaK.map b32), .rd A 1 64 c (b.map b8)] (by rw [Tryd.ntmps71]; rfl) (own_rds hO rfl) ?_
 rw [Tryd.ntmps71]
 refine T_re [(0, (.agg (s.map b32).toArray)), (1, (.pointer (some ⟨gk, 0, none⟩))), (2, (.slice A 64 c))] (sc rfl (sc rfl (sc rfl sn))) ?_
 refine T_he [0, 1] [.rd (some ⟨gk, 0, none⟩) 1 64 64 (shaK.map b32), .rd A 1 64 c (b.map b8)] ⟨by decide, rfl⟩ ?_
 refine Tsr hF rfl ?_
 refine L_op rfl (op_box (zs := (s.map b32)) rfl rfl rfl rfl rfl (fun g1 => ?_))
 refine L_op rfl (op_alloc (z := .agg [(b32 (0#32)), (b32 (0#32)), (b32 (0#32)), (b32 (0#32)), (b32 (0#32)), (b32 (0#32)), (b32 (0#32)), (b32 (0#32))].toArray) (zs := [(b32 (0#32)), (b32 (0#32)), (b32 (0#32)), (b32 (0#32)), (b32 (0#32)), (b32 (0#32)), (b32 (0#32)), (b32 (0#32))]) kr rfl rfl rfl rfl (fun g2 => ?_))
 refine L_nil ?_
 refine T_seq ?_
 refine T_regD [.blk g2 83 [(b32 (0#32)), (b32 (0#32)), (b32 (0#32)), (b32 (0#32)), (b32 (0#32)), (b32 (0#32)), (b32 (0#32)), (b32 (0#32))], .blk g1 83 (s.map b32), .rd (some ⟨gk, 0, none⟩) 1 64 64 (shaK.map b32), .rd A 1 64 c (b.map b8)] 7 7 #[false, false, false, false, false, false, false] hF kr kr ?_
 refine D_pure (i := 1) [0, 1, 2, 3] rfl kr rfl (pr_move rfl rfl) (.inr rfl) rfl rfl ?_
 refine D_take (i := 0) [0, 1, 2, 3] rfl kr rfl (ld_agg (ds := (s.map b32)) 1 rfl agg_all Tryd.underlying83 rfl (fwz (n := 8) kr sd) rfl rfl) rfl rfl rfl ?_
 refine D_join (T := Nat × Nat) (fun _ => True) (fun ⟨g5, g6⟩ => [(1, (.pointer (some ⟨gk, 0, none⟩))), (3, (.pointer (some ⟨g1, 0, none⟩))), (6, (.pointer (some ⟨g2, 0, none⟩))), (7, (.pointer (some ⟨g5, 0, none⟩))), (8, (.pointer (some ⟨g6, 0, none⟩)))]) (fun ⟨g5, g6⟩ => [.blk g6 81 ((schw b 64).map b32), .blk g5 83 (s.map b32), .blk g2 83 [(b32 (0#32)), (b32 (0#32)), (b32 (0#32)), (b32 (0#32)), (b32 (0#32)), (b32 (0#32)), (b32 (0#32)), (b32 (0#32))], .blk g1 83 (s.map b32), .rd (some ⟨gk, 0, none⟩) 1 64 64 (shaK.map b32), .rd A 1 64 c (b.map b8)]) ?_ ?_
 ·
  refine D_all [2, 3, 4] kr (by simp) ⟨⟨_, rfl, rfl, ?_⟩, ⟨_, rfl, rfl, ?_⟩, ⟨_, rfl, rfl, ?_⟩, trivial⟩
  ·
   refine id (op_cn (fun w hw => schedule_f b A c w (hok_cons ((src_rd 3 rfl) w hw) (hok_nil w)) sd) (enters_of Tryd.func76 kr rfl) rfl rfl rfl rfl rfl (fun t7 q8 => ?_))
   refine D_on [0, 1, 2, 3] rfl ?_
   refine D_all [3, 4] kr (by simp) ⟨⟨_, rfl, rfl, ?_⟩, ⟨_, rfl, rfl, ?_⟩, trivial⟩
   ·
    refine id (op_alloc (z := .agg [(b32 (0#32)), (b32 (0#32)), (b32 (0#32)), (b32 (0#32)), (b32 (0#32)), (b32 (0#32)), (b32 (0#32)), (b32 (0#32))].toArray) (zs := [(b32 (0#32)), (b32 (0#32)), (b32 (0#32)), (b32 (0#32)), (b32 (0#32)), (b32 (0#32)), (b32 (0#32)), (b32 (0#32))]) kr rfl rfl rfl rfl (fun g9 => ?_))
    refine D_on [1, 2, 3, 4] rfl ?_
    refine D_one 4 _ rfl kr rfl (op_alloc (z := .agg ((List.replicate 64 0#32).map b32).toArray) (zs := ((List.replicate 64 0#32).map b32)) kr rfl rfl rfl rfl (fun g10 => ?_))
    refine D_on [2, 3, 4, 5] rfl ?_
    refine D_one 5 _ rfl kr rfl (op_sto (n := 8) (vs := (s.map b32)) 1 rfl rfl kr (all32_one _) kr sd rfl rfl rfl rfl ?_)
    refine D_on [2, 3, 4, 5] rfl ?_
    refine D_one 6 _ rfl kr rfl (op_sto (n := 64) (vs := ((schw b 64).map b32)) 1 rfl rfl kr (all32_one _) kr sd rfl rfl rfl rfl ?_)
    refine D_on [2, 3, 4, 5] rfl ?_
    refine D_done kr ?_
    exact T_meet (g9, g10) trivial (sc rfl (sc rfl (sc rfl (sc rfl (sc rfl sn))))) [0, 1, 2, 3, 4, 5] ⟨by decide, rfl⟩
   ·
    refine id (op_alloc (z := .agg ((List.replicate 64 0#32).map b32).toArray) (zs := ((List.replicate 64 0#32).map b32)) kr rfl rfl rfl rfl (fun g11 => ?_))
    refine D_on [1, 2, 3, 4] rfl ?_
    refine D_one 3 _ rfl kr rfl (op_alloc (z := .agg [(b32 (0#32)), (b32 (0#32)), (b32 (0#32)), (b32 (0#32)), (b32 (0#32)), (b32 (0#32)), (b32 (0#32)), (b32 (0#32))].toArray) (zs := [(b32 (0#32)), (b32 (0#32)), (b32 (0#32)), (b32 (0#32)), (b32 (0#32)), (b32 (0#32)), (b32 (0#32)), (b32 (0#32))]) kr rfl rfl rfl rfl (fun g12 => ?_))
    refine D_on [2, 3, 4, 5] rfl ?_
    refine D_one 5 _ rfl kr rfl (op_sto (n := 8) (vs := (s.map b32)) 0 rfl rfl kr (all32_one _) kr sd rfl rfl rfl rfl ?_)
    refine D_on [2, 3, 4, 5] rfl ?_
    refine D_one 6 _ rfl kr rfl (op_sto (n := 64) (vs := ((schw b 64).map b32)) 1 rfl rfl kr (all32_one _) kr sd rfl rfl rfl rfl ?_)
    refine D_on [2, 3, 4, 5] rfl ?_
    refine D_done kr ?_
    exact T_meet (g12, g11) trivial (sc rfl (sc rfl (sc rfl (sc rfl (sc rfl sn))))) [0, 1, 2, 3, 4, 5] ⟨by decide, rfl⟩
  ·
   refine id (op_alloc (z := .agg [(b32 (0#32)), (b32 (0#32)), (b32 (0#32)), (b32 (0#32)), (b32 (0#32)), (b32 (0#32)), (b32 (0#32)), (b32 (0#32))].toArray) (zs := [(b32 (0#32)), (b32 (0#32)), (b32 (0#32)), (b32 (0#32)), (b32 (0#32)), (b32 (0#32)), (b32 (0#32)), (b32 (0#32))]) kr rfl rfl rfl rfl (fun g13 => ?_))
   refine D_on [1, 2, 3, 4] rfl ?_
   refine D_all [2, 4] kr (by simp) ⟨⟨_, rfl, rfl, ?_⟩, ⟨_, rfl, rfl, ?_⟩, trivial⟩
   ·
    refine id (op_cn (fun w hw => schedule_f b A c w (hok_cons ((src_rd 4 rfl) w hw) (hok_nil w)) sd) (enters_of Tryd.func76 kr rfl) rfl rfl rfl rfl rfl (fun t14 q15 => ?_))
    refine D_on [1, 2, 3, 4] rfl ?_
    refine D_one 4 _ rfl kr rfl (op_alloc (z := .agg ((List.replicate 64 0#32).map b32).toArray) (zs := ((List.replicate 64 0#32).map b32)) kr rfl rfl rfl rfl (fun g16 => ?_))
    refine D_on [2, 3, 4, 5] rfl ?_
    refine D_one 5 _ rfl kr rfl (op_sto (n := 8) (vs := (s.map b32)) 1 rfl rfl kr (all32_one _) kr sd rfl rfl rfl rfl ?_)
    refine D_on [2, 3, 4, 5] rfl ?_
    refine D_one 6 _ rfl kr rfl (op_sto (n := 64) (vs := ((schw b 64).map b32)) 1 rfl rfl kr (all32_one _) kr sd rfl rfl rfl rfl ?_)
    refine D_on [2, 3, 4, 5] rfl ?_
    refine D_done kr ?_
    exact T_meet (g13, g16) trivial (sc rfl (sc rfl (sc rfl (sc rfl (sc rfl sn))))) [0, 1, 2, 3, 4, 5] ⟨by decide, rfl⟩
   ·
    refine id (op_alloc (z := .agg ((List.replicate 64 0#32).map b32).toArray) (zs := ((List.replicate 64 0#32).map b32)) kr rfl rfl rfl rfl (fun g17 => ?_))
    refine D_on [2, 3, 4, 5] rfl ?_
    refine D_one 2 _ rfl kr rfl (op_cn (fun w hw => schedule_f b A c w (hok_cons ((src_rd 5 rfl) w hw) (hok_nil w)) sd) (enters_of Tryd.func76 kr rfl) rfl rfl rfl rfl rfl (fun t18 q19 => ?_))
    refine D_on [2, 3, 4, 5] rfl ?_
    refine D_one 5 _ rfl kr rfl (op_sto (n := 8) (vs := (s.map b32)) 1 rfl rfl kr (all32_one _) kr sd rfl rfl rfl rfl ?_)
    refine D_on [2, 3, 4, 5] rfl ?_
    refine D_one 6 _ rfl kr rfl (op_sto (n := 64) (vs := ((schw b 64).map b32)) 1 rfl rfl kr (all32_one _) kr sd rfl rfl rfl rfl ?_)
    refine D_on [2, 3, 4, 5] rfl ?_
    refine D_done kr ?_
    exact T_meet (g13, g17) trivial (sc rfl (sc rfl (sc rfl (sc rfl (sc rfl sn))))) [0, 1, 2, 3, 4, 5] ⟨by decide, rfl⟩
  ·
   refine id (op_alloc (z := .agg ((List.replicate 64 0#32).map b32).toArray) (zs := ((List.replicate 64 0#32).map b32)) kr rfl rfl rfl rfl (fun g20 => ?_))
   refine D_on [1, 2, 3, 4] rfl ?_
   refine D_all [2, 3] kr (by simp) ⟨⟨_, rfl, rfl, ?_⟩, ⟨_, rfl, rfl, ?_⟩, trivial⟩
   ·
    refine id (op_cn (fun w hw => schedule_f b A c w (hok_cons ((src_rd 4 rfl) w hw) (hok_nil w)) sd) (enters_of Tryd.func76 kr rfl) rfl rfl rfl rfl rfl (fun t21 q22 => ?_))
    refine D_on [1, 2, 3, 4] rfl ?_
    refine D_one 3 _ rfl kr rfl (op_alloc (z := .agg [(b32 (0#32)), (b32 (0#32)), (b32 (0#32)), (b32 (0#32)), (b32 (0#32)), (b32 (0#32)), (b32 (0#32)), (b32 (0#32))].toArray) (zs := [(b32 (0#32)), (b32 (0#32)), (b32 (0#32)), (b32 (0#32)), (b32 (0#32)), (b32 (0#32)), (b32 (0#32)), (b32 (0#32))]) kr rfl rfl rfl rfl (fun g23 => ?_))
    refine D_on [2, 3, 4, 5] rfl ?_
    refine D_one 5 _ rfl kr rfl (op_sto (n := 8) (vs := (s.map b32)) 0 rfl rfl kr (all32_one _) kr sd rfl rfl rfl rfl ?_)
    refine D_on [2, 3, 4, 5] rfl ?_
    refine D_one 6 _ rfl kr rfl (op_sto (n := 64) (vs := ((schw b 64).map b32)) 1 rfl rfl kr (all32_one _) kr sd rfl rfl rfl rfl ?_)
    refine D_on [2, 3, 4, 5] rfl ?_
    refine D_done kr ?_
    exact T_meet (g23, g20) trivial (sc rfl (sc rfl (sc rfl (sc rfl (sc rfl sn))))) [0, 1, 2, 3, 4, 5] ⟨by decide, rfl⟩
   ·
    refine id (op_alloc (z := .agg [(b32 (0#32)), (b32 (0#32)), (b32 (0#32)), (b32 (0#32)), (b32 (0#32)), (b32 (0#32)), (b32 (0#32)), (b32 (0#32))].toArray) (zs := [(b32 (0#32)), (b32 (0#32)), (b32 (0#32)), (b32 (0#32)), (b32 (0#32)), (b32 (0#32)), (b32 (0#32)), (b32 (0#32))]) kr rfl rfl rfl rfl (fun g24 => ?_))
    refine D_on [2, 3, 4, 5] rfl ?_
    refine D_one 2 _ rfl kr rfl (op_cn (fun w hw => schedule_f b A c w (hok_cons ((src_rd 5 rfl) w hw) (hok_nil w)) sd) (enters_of Tryd.func76 kr rfl) rfl rfl rfl rfl rfl (fun t25 q26 => ?_))
    refine D_on [2, 3, 4, 5] rfl ?_
    refine D_one 5 _ rfl kr rfl (op_sto (n := 8) (vs := (s.map b32)) 0 rfl rfl kr (all32_one _) kr sd rfl rfl rfl rfl ?_)
    refine D_on [2, 3, 4, 5] rfl ?_
    refine D_one 6 _ rfl kr rfl (op_sto (n := 64) (vs := ((schw b 64).map b32)) 1 rfl rfl kr (all32_one _) kr sd rfl rfl rfl rfl ?_)
    refine D_on [2, 3, 4, 5] rfl ?_
    refine D_done kr ?_
    exact T_meet (g24, g20) trivial (sc rfl (sc rfl (sc rfl (sc rfl (sc rfl sn))))) [0, 1, 2, 3, 4, 5] ⟨by decide, rfl⟩
 ·
  rintro ⟨g5, g6⟩ -
  refine T_re [(1, (.pointer (some ⟨gk, 0, none⟩))), (3, (.pointer (some ⟨g1, 0, none⟩))), (6, (.pointer (some ⟨g2, 0, none⟩))), (7, (.pointer (some ⟨g5, 0, none⟩))), (8, (.pointer (some ⟨g6, 0, none⟩)))] (sc rfl (sc rfl (sc rfl (sc rfl (sc rfl sn))))) ?_
  refine T_he [0, 1, 2, 3, 4, 5] [.blk g6 81 ((schw b 64).map b32), .blk g5 83 (s.map b32), .blk g2 83 [(b32 (0#32)), (b32 (0#32)), (b32 (0#32)), (b32 (0#32)), (b32 (0#32)), (b32 (0#32)), (b32 (0#32)), (b32 (0#32))], .blk g1 83 (s.map b32), .rd (some ⟨gk, 0, none⟩) 1 64 64 (shaK.map b32), .rd A 1 64 c (b.map b8)] ⟨by decide, rfl⟩ ?_
  refine T_seq ?_
  refine Tsr hF rfl ?_
  refine lm rfl rfl rfl rfl rfl ?_
  refine L_nil ?_
  refine T_block ?_
  refine T_as 1 _ (.blk g5 83 ((rounds s (schw b 64) 0).map b32)) rfl (by rw [rounds_zero]) ?_
  refine T_loop (T := Nat) (fun k => k ≤ 64) (fun k => [(1, (.pointer (some ⟨gk, 0, none⟩))), (3, (.pointer (some ⟨g1, 0, none⟩))), (6, (.pointer (some ⟨g2, 0, none⟩))), (7, (.pointer (some ⟨g5, 0, none⟩))), (8, (.pointer (some ⟨g6, 0, none⟩))), (18, (.int .i64 ((k : Nat) : Int)))]) (fun k => [.blk g6 81 ((schw b 64).map b32), .blk g5 83 ((rounds s (schw b 64) k).map b32), .blk g2 83 [(b32 (0#32)), (b32 (0#32)), (b32 (0#32)), (b32 (0#32)), (b32 (0#32)), (b32 (0#32)), (b32 (0#32)), (b32 (0#32))], .blk g1 83 (s.map b32), .rd (some ⟨gk, 0, none⟩) 1 64 64 (shaK.map b32), .rd A 1 64 c (b.map b8)]) (fun k => 64 - k) 0 (by first | trivial | ((try dsimp only); first | omega | (refine ⟨?_, ?_⟩ <;> omega) | (refine ⟨?_, ?_, ?_⟩ <;> omega) | (simp; done) | (simp; omega))) (sc rfl (sc rfl (sc rfl (sc rfl (sc rfl (sc rfl sn)))))) [1, 0, 2, 3, 4, 5] ⟨by decide, rfl⟩ ?_
  rintro k hp
  have hp : k ≤ 64 := hp
  have hrk := hrl k
  refine T_re [(1, (.pointer (some ⟨gk, 0, none⟩))), (3, (.pointer (some ⟨g1, 0, none⟩))), (6, (.pointer (some ⟨g2, 0, none⟩))), (7, (.pointer (some ⟨g5, 0, none⟩))), (8, (.pointer (some ⟨g6, 0, none⟩))), (18, (.int .i64 ((k : Nat) : Int)))] (sc rfl (sc rfl (sc rfl (sc rfl (sc rfl (sc rfl sn)))))) ?_
  refine T_he [0, 1, 2, 3, 4, 5] [.blk g6 81 ((schw b 64).map b32), .blk g5 83 ((rounds s (schw b 64) k).map b32), .blk g2 83 [(b32 (0#32)), (b32 (0#32)), (b32 (0#32)), (b32 (0#32)), (b32 (0#32)), (b32 (0#32)), (b32 (0#32)), (b32 (0#32))], .blk g1 83 (s.map b32), .rd (some ⟨gk, 0, none⟩) 1 64 64 (shaK.map b32), .rd A 1 64 c (b.map b8)] ⟨by decide, rfl⟩ ?_
  refine Tsr hF rfl ?_
  refine lo rfl (pr_cmp (bo := .lss) (nc_lt (a := k) (b := 64)) rfl rfl rfl rfl) rfl rfl ?_
  refine L_nil ?_
  refine T_seq ?_
  refine T_cond (decide (k < 64)) rfl (fun hc_27 => ?_) (fun hc_27 => ?_)
  ·
   have hc_27 := of_decide_eq_true hc_27
   refine T_skip ?_
   refine T_seq ?_
   refine T_block ?_
   refine Tsr hF rfl ?_
   refine lm rfl rfl rfl rfl rfl ?_
   refine la rfl rfl rfl rfl rfl ?_
   refine L_nil ?_
   refine T_seq ?_
   refine T_regD [.blk g6 81 ((schw b 64).map b32), .blk g5 83 ((rounds s (schw b 64) k).map b32), .blk g2 83 [(b32 (0#32)), (b32 (0#32)), (b32 (0#32)), (b32 (0#32)), (b32 (0#32)), (b32 (0#32)), (b32 (0#32)), (b32 (0#32))], .blk g1 83 (s.map b32), .rd (some ⟨gk, 0, none⟩) 1 64 64 (shaK.map b32), .rd A 1 64 c (b.map b8)] 12 12 #[false, false, false, false, false, false, false, false, false, false, false, false] hF kr kr ?_
   refine D_pure (i := 0) [0, 1, 2, 3, 4, 5] rfl kr rfl (pr_ixa (j := 4) (m' := 4) sd (by omega) Tryd.underlying83 (z := 1) kr rfl rfl rfl) (.inr rfl) rfl rfl ?_
   refine D_pure (i := 3) [0, 1, 2, 3, 4, 5] rfl kr rfl (pr_ixa (j := 4) (m' := 4) sd (by omega) Tryd.underlying83 (z := 1) kr rfl rfl rfl) (.inr rfl) rfl rfl ?_
   refine D_pure (i := 7) [0, 1, 2, 3, 4, 5] rfl kr rfl (pr_ixa (j := 4) (m' := 4) sd (by omega) Tryd.underlying83 (z := 1) kr rfl rfl rfl) (.inr rfl) rfl rfl ?_
   refine D_take (i := 1) [0, 1, 2, 3, 4, 5] rfl kr rfl (ld_blk 1 rfl (get32 sd) Tryd.underlying25 rfl rfl rfl) rfl rfl rfl ?_
   refine D_take (i := 4) [0, 1, 2, 3, 4, 5] rfl kr rfl (ld_blk 1 rfl (get32 sd) Tryd.underlying25 rfl rfl rfl) rfl rfl rfl ?_
   refine D_take (i := 8) [0, 1, 2, 3, 4, 5] rfl kr rfl (ld_blk 1 rfl (get32 sd) Tryd.underlying25 rfl rfl rfl) rfl rfl rfl ?_
   refine D_one 2 _ rfl kr rfl (op_cn (fun w hw => rotated_f (ath (rounds s (schw b 64) k) 4) 6 w (hok_nil w) sd sd) (enters_of Tryd.func77 kr rfl) rfl rfl rfl rfl rfl (fun t28 q29 => ?_))
   refine D_on [0, 1, 2, 3, 4, 5] rfl ?_
   refine D_one 5 _ rfl kr rfl (op_cn (fun w hw => rotated_f (ath (rounds s (schw b 64) k) 4) 11 w (hok_nil w) sd sd) (enters_of Tryd.func77 kr rfl) rfl rfl rfl rfl rfl (fun t30 q31 => ?_))
   refine D_on [0, 1, 2, 3, 4, 5] rfl ?_
   refine D_pure (i := 6) [0, 1, 2, 3, 4, 5] rfl kr rfl (pr_xor (ib_xor32 _ _) rfl rfl rfl) (.inr rfl) rfl rfl ?_
   refine D_one 9 _ rfl kr rfl (op_cn (fun w hw => rotated_f (ath (rounds s (schw b 64) k) 4) 25 w (hok_nil w) sd sd) (enters_of Tryd.func77 kr rfl) rfl rfl rfl rfl rfl (fun t32 q33 => ?_))
   refine D_on [0, 1, 2, 3, 4, 5] rfl ?_
   refine D_pure (i := 10) [0, 1, 2, 3, 4, 5] rfl kr rfl (pr_xor (ib_xor32 _ _) rfl rfl rfl) (.inr rfl) rfl rfl ?_
   refine D_pure (i := 11) [0, 1, 2, 3, 4, 5] rfl kr rfl (pr_assign rfl rfl) (.inr rfl) rfl rfl ?_
   refine D_done kr ?_
   refine T_seq ?_
   refine T_regD [.blk g6 81 ((schw b 64).map b32), .blk g5 83 ((rounds s (schw b 64) k).map b32), .blk g2 83 [(b32 (0#32)), (b32 (0#32)), (b32 (0#32)), (b32 (0#32)), (b32 (0#32)), (b32 (0#32)), (b32 (0#32)), (b32 (0#32))], .blk g1 83 (s.map b32), .rd (some ⟨gk, 0, none⟩) 1 64 64 (shaK.map b32), .rd A 1 64 c (b.map b8)] 12 12 #[false, false, false, false, false, false, false, false, false, false, false, false] hF kr kr ?_
   refine D_pure (i := 0) [0, 1, 2, 3, 4, 5] rfl kr rfl (pr_ixa (j := 0) (m' := 0) sd (by omega) Tryd.underlying83 (z := 1) kr rfl rfl rfl) (.inr rfl) rfl rfl ?_
   refine D_pure (i := 3) [0, 1, 2, 3, 4, 5] rfl kr rfl (pr_ixa (j := 0) (m' := 0) sd (by omega) Tryd.underlying83 (z := 1) kr rfl rfl rfl) (.inr rfl) rfl rfl ?_
   refine D_pure (i := 7) [0, 1, 2, 3, 4, 5] rfl kr rfl (pr_ixa (j := 0) (m' := 0) sd (by omega) Tryd.underlying83 (z := 1) kr rfl rfl rfl) (.inr rfl) rfl rfl ?_
   refine D_take (i := 1) [0, 1, 2, 3, 4, 5] rfl kr rfl (ld_blk 1 rfl (get32 sd) Tryd.underlying25 rfl rfl rfl) rfl rfl rfl ?_
   refine D_take (i := 4) [0, 1, 2, 3, 4, 5] rfl kr rfl (ld_blk 1 rfl (get32 sd) Tryd.underlying25 rfl rfl rfl) rfl rfl rfl ?_
   refine D_take (i := 8) [0, 1, 2, 3, 4, 5] rfl kr rfl (ld_blk 1 rfl (get32 sd) Tryd.underlying25 rfl rfl rfl) rfl rfl rfl ?_
   refine D_one 2 _ rfl kr rfl (op_cn (fun w hw => rotated_f (ath (rounds s (schw b 64) k) 0) 2 w (hok_nil w) sd sd) (enters_of Tryd.func77 kr rfl) rfl rfl rfl rfl rfl (fun t34 q35 => ?_))
   refine D_on [0, 1, 2, 3, 4, 5] rfl ?_
   refine D_one 5 _ rfl kr rfl (op_cn (fun w hw => rotated_f (ath (rounds s (schw b 64) k) 0) 13 w (hok_nil w) sd sd) (enters_of Tryd.func77 kr rfl) rfl rfl rfl rfl rfl (fun t36 q37 => ?_))
   refine D_on [0, 1, 2, 3, 4, 5] rfl ?_
   refine D_pure (i := 6) [0, 1, 2, 3, 4, 5] rfl kr rfl (pr_xor (ib_xor32 _ _) rfl rfl rfl) (.inr rfl) rfl rfl ?_
   refine D_one 9 _ rfl kr rfl (op_cn (fun w hw => rotated_f (ath (rounds s (schw b 64) k) 0) 22 w (hok_nil w) sd sd) (enters_of Tryd.func77 kr rfl) rfl rfl rfl rfl rfl (fun t38 q39 => ?_))
   refine D_on [0, 1, 2, 3, 4, 5] rfl ?_
   refine D_pure (i := 10) [0, 1, 2, 3, 4, 5] rfl kr rfl (pr_xor (ib_xor32 _ _) rfl rfl rfl) (.inr rfl) rfl rfl ?_
   refine D_pure (i := 11) [0, 1, 2, 3, 4, 5] rfl kr rfl (pr_assign rfl rfl) (.inr rfl) rfl rfl ?_
   refine D_done kr ?_
   refine T_seq ?_
   refine T_regD [.blk g6 81 ((schw b 64).map b32), .blk g5 83 ((rounds s (schw b 64) k).map b32), .blk g2 83 [(b32 (0#32)), (b32 (0#32)), (b32 (0#32)), (b32 (0#32)), (b32 (0#32)), (b32 (0#32)), (b32 (0#32)), (b32 (0#32))], .blk g1 83 (s.map b32), .rd (some ⟨gk, 0, none⟩) 1 64 64 (shaK.map b32), .rd A 1 64 c (b.map b8)] 28 28 #[false, false, false, false, false, false, false, false, false, false, false, false, false, false, false, false, false, false, false, false, false, false, false, false, false, false, false, false] hF kr kr ?_
   refine D_pure (i := 0) [0, 1, 2, 3, 4, 5] rfl kr rfl (pr_ixa (j := 7) (m' := 7) sd (by omega) Tryd.underlying83 (z := 1) kr rfl rfl rfl) (.inr rfl) rfl rfl ?_
   refine D_pure (i := 2) [0, 1, 2, 3, 4, 5] rfl kr rfl (pr_move rfl rfl) (.inr rfl) rfl rfl ?_
   refine D_pure (i := 4) [0, 1, 2, 3, 4, 5] rfl kr rfl (pr_ixa (j := 4) (m' := 4) sd (by omega) Tryd.underlying83 (z := 1) kr rfl rfl rfl) (.inr rfl) rfl rfl ?_
   refine D_pure (i := 6) [0, 1, 2, 3, 4, 5] rfl kr rfl (pr_ixa (j := 5) (m' := 5) sd (by omega) Tryd.underlying83 (z := 1) kr rfl rfl rfl) (.inr rfl) rfl rfl ?_
   refine D_pure (i := 9) [0, 1, 2, 3, 4, 5] rfl kr rfl (pr_ixa (j := 4) (m' := 4) sd (by omega) Tryd.underlying83 (z := 1) kr rfl rfl rfl) (.inr rfl) rfl rfl ?_
   refine D_pure (i := 12) [0, 1, 2, 3, 4, 5] rfl kr rfl (pr_ixa (j := 6) (m' := 6) sd (by omega) Tryd.underlying83 (z := 1) kr rfl rfl rfl) (.inr rfl) rfl rfl ?_
   refine D_pure (i := 17) [0, 1, 2, 3, 4, 5] rfl kr rfl (pr_move rfl rfl) (.inr rfl) rfl rfl ?_
   refine D_pure (i := 18) [0, 1, 2, 3, 4, 5] rfl kr rfl (pr_move rfl rfl) (.inr rfl) rfl rfl ?_
   refine D_pure (i := 19) [0, 1, 2, 3, 4, 5] rfl kr rfl (pr_nilck rfl rfl) (.inr rfl) rfl rfl ?_
   refine D_pure (i := 20) [0, 1, 2, 3, 4, 5] rfl kr rfl (pr_ixa (j := k) (m' := k) sd (by omega) Tryd.underlying81 (z := 1) kr rfl rfl rfl) (.inr rfl) rfl rfl ?_
   refine D_pure (i := 23) [0, 1, 2, 3, 4, 5] rfl kr rfl (pr_move rfl rfl) (.inr rfl) rfl rfl ?_
   refine D_pure (i := 24) [0, 1, 2, 3, 4, 5] rfl kr rfl (pr_ixa (j := k) (m' := k) sd (by omega) Tryd.underlying81 (z := 1) kr rfl rfl rfl) (.inr rfl) rfl rfl ?_
   refine D_take (i := 1) [0, 1, 2, 3, 4, 5] rfl kr rfl (ld_blk 1 rfl (get32 sd) Tryd.underlying25 rfl rfl rfl) rfl rfl rfl ?_
   refine D_pure (i := 3) [0, 1, 2, 3, 4, 5] rfl kr rfl (pr_add (add32 _ _) rfl rfl rfl) (.inr rfl) rfl rfl ?_
   refine D_take (i := 5) [0, 1, 2, 3, 4, 5] rfl kr rfl (ld_blk 1 rfl (get32 sd) Tryd.underlying25 rfl rfl rfl) rfl rfl rfl ?_
   refine D_take (i := 7) [0, 1, 2, 3, 4, 5] rfl kr rfl (ld_blk 1 rfl (get32 sd) Tryd.underlying25 rfl rfl rfl) rfl rfl rfl ?_
   refine D_pure (i := 8) [0, 1, 2, 3, 4, 5] rfl kr rfl (pr_and (ib_and32 _ _) rfl rfl rfl) (.inr rfl) rfl rfl ?_
   refine D_take (i := 10) [0, 1, 2, 3, 4, 5] rfl kr rfl (ld_blk 1 rfl (get32 sd) Tryd.underlying25 rfl rfl rfl) rfl rfl rfl ?_
   refine D_pure (i := 11) [0, 1, 2, 3, 4, 5] rfl kr rfl (pr_un (not32 _) rfl rfl) (.inr rfl) rfl rfl ?_
   refine D_take (i := 13) [0, 1, 2, 3, 4, 5] rfl kr rfl (ld_blk 1 rfl (get32 sd) Tryd.underlying25 rfl rfl rfl) rfl rfl rfl ?_
   refine D_pure (i := 14) [0, 1, 2, 3, 4, 5] rfl kr rfl (pr_and (ib_and32 _ _) rfl rfl rfl) (.inr rfl) rfl rfl ?_
   refine D_pure (i := 15) [0, 1, 2, 3, 4, 5] rfl kr rfl (pr_xor (ib_xor32 _ _) rfl rfl rfl) (.inr rfl) rfl rfl ?_
   refine D_pure (i := 16) [0, 1, 2, 3, 4, 5] rfl kr rfl (pr_add (add32 _ _) rfl rfl rfl) (.inr rfl) rfl rfl ?_
   refine D_take (i := 21) [0, 1, 2, 3, 4, 5] rfl kr rfl (ld_rdb (src_rd 4 rfl) (get32 sd) Tryd.underlying25 rfl rfl rfl) rfl rfl rfl ?_
   refine D_pure (i := 22) [0, 1, 2, 3, 4, 5] rfl kr rfl (pr_add (add32 _ _) rfl rfl rfl) (.inr rfl) rfl rfl ?_
   refine D_take (i := 25) [0, 1, 2, 3, 4, 5] rfl kr rfl (ld_blk 0 rfl (get32 sd) Tryd.underlying25 rfl rfl rfl) rfl rfl rfl ?_
   refine D_pure (i := 26) [0, 1, 2, 3, 4, 5] rfl kr rfl (pr_add (add32 _ _) rfl rfl rfl) (.inr rfl) rfl rfl ?_
   refine D_pure (i := 27) [0, 1, 2, 3, 4, 5] rfl kr rfl (pr_assign rfl rfl) (.inr rfl) rfl rfl ?_
   refine D_done kr ?_
   refine Tsr hF rfl ?_
   refine lm rfl rfl rfl rfl rfl ?_
   refine lo rfl (pr_ixa (j := 0) (m' := 0) sd (by omega) Tryd.underlying83 (z := 1) kr rfl rfl rfl) rfl rfl ?_
   refine lq rfl (ld_blk 1 rfl (get32 sd) Tryd.underlying25 rfl rfl rfl) rfl rfl ?_
   refine lo rfl (pr_ixa (j := 1) (m' := 1) sd (by omega) Tryd.underlying83 (z := 1) kr rfl rfl rfl) rfl rfl ?_
   refine lq rfl (ld_blk 1 rfl (get32 sd) Tryd.underlying25 rfl rfl rfl) rfl rfl ?_
   refine lo rfl (pr_and (ib_and32 _ _) rfl rfl rfl) rfl rfl ?_
   refine lo rfl (pr_ixa (j := 0) (m' := 0) sd (by omega) Tryd.underlying83 (z := 1) kr rfl rfl rfl) rfl rfl ?_
   refine lq rfl (ld_blk 1 rfl (get32 sd) Tryd.underlying25 rfl rfl rfl) rfl rfl ?_
   refine lo rfl (pr_ixa (j := 2) (m' := 2) sd (by omega) Tryd.underlying83 (z := 1) kr rfl rfl rfl) rfl rfl ?_
   refine lq rfl (ld_blk 1 rfl (get32 sd) Tryd.underlying25 rfl rfl rfl) rfl rfl ?_
   refine lo rfl (pr_and (ib_and32 _ _) rfl rfl rfl) rfl rfl ?_
   refine lo rfl (pr_xor (ib_xor32 _ _) rfl rfl rfl) rfl rfl ?_
   refine lo rfl (pr_ixa (j := 1) (m' := 1) sd (by omega) Tryd.underlying83 (z := 1) kr rfl rfl rfl) rfl rfl ?_
   refine lq rfl (ld_blk 1 rfl (get32 sd) Tryd.underlying25 rfl rfl rfl) rfl rfl ?_
   refine lo rfl (pr_ixa (j := 2) (m' := 2) sd (by omega) Tryd.underlying83 (z := 1) kr rfl rfl rfl) rfl rfl ?_
   refine lq rfl (ld_blk 1 rfl (get32 sd) Tryd.underlying25 rfl rfl rfl) rfl rfl ?_
   refine lo rfl (pr_and (ib_and32 _ _) rfl rfl rfl) rfl rfl ?_
   refine lo rfl (pr_xor (ib_xor32 _ _) rfl rfl rfl) rfl rfl ?_
   refine lo rfl (pr_add (add32 _ _) rfl rfl rfl) rfl rfl ?_
   refine la rfl rfl rfl rfl rfl ?_
   refine L_nil ?_
   refine T_reg hF rfl ?_
   refine lm rfl rfl rfl rfl rfl ?_
   refine lm rfl rfl rfl rfl rfl ?_
   refine lo rfl (pr_add (add32 _ _) rfl rfl rfl) rfl rfl ?_
   refine lo rfl (pr_ixa (j := 0) (m' := 0) sd (by omega) Tryd.underlying83 (z := 1) kr rfl rfl rfl) rfl rfl ?_
   refine lq rfl (ld_blk 1 rfl (get32 sd) Tryd.underlying25 rfl rfl rfl) rfl rfl ?_
   refine lo rfl (pr_ixa (j := 1) (m' := 1) sd (by omega) Tryd.underlying83 (z := 1) kr rfl rfl rfl) rfl rfl ?_
   refine lq rfl (ld_blk 1 rfl (get32 sd) Tryd.underlying25 rfl rfl rfl) rfl rfl ?_
   refine lo rfl (pr_ixa (j := 2) (m' := 2) sd (by omega) Tryd.underlying83 (z := 1) kr rfl rfl rfl) rfl rfl ?_
   refine lq rfl (ld_blk 1 rfl (get32 sd) Tryd.underlying25 rfl rfl rfl) rfl rfl ?_
   refine lo rfl (pr_ixa (j := 3) (m' := 3) sd (by omega) Tryd.underlying83 (z := 1) kr rfl rfl rfl) rfl rfl ?_
   refine lq rfl (ld_blk 1 rfl (get32 sd) Tryd.underlying25 rfl rfl rfl) rfl rfl ?_
   refine lm rfl rfl rfl rfl rfl ?_
   refine lo rfl (pr_add (add32 _ _) rfl rfl rfl) rfl rfl ?_
   refine lo rfl (pr_ixa (j := 4) (m' := 4) sd (by omega) Tryd.underlying83 (z := 1) kr rfl rfl rfl) rfl rfl ?_
   refine lq rfl (ld_blk 1 rfl (get32 sd) Tryd.underlying25 rfl rfl rfl) rfl rfl ?_
   refine lo rfl (pr_ixa (j := 5) (m' := 5) sd (by omega) Tryd.underlying83 (z := 1) kr rfl rfl rfl) rfl rfl ?_
   refine lq rfl (ld_blk 1 rfl (get32 sd) Tryd.underlying25 rfl rfl rfl) rfl rfl ?_
   refine lo rfl (pr_ixa (j := 6) (m' := 6) sd (by omega) Tryd.underlying83 (z := 1) kr rfl rfl rfl) rfl rfl ?_
   refine lq rfl (ld_blk 1 rfl (get32 sd) Tryd.underlying25 rfl rfl rfl) rfl rfl ?_
   refine lo rfl (pr_build (qs := [(0, (b32 ((((((ath (rounds s (schw b 64) k) 7) + (((ror32 (ath (rounds s (schw b 64) k) 4) 6) ^^^ (ror32 (ath (rounds s (schw b 64) k) 4) 11)) ^^^ (ror32 (ath (rounds s (schw b 64) k) 4) 25))) + (((ath (rounds s (schw b 64) k) 4) &&& (ath (rounds s (schw b 64) k) 5)) ^^^ ((~~~(ath (rounds s (schw b 64) k) 4)) &&& (ath (rounds s (schw b 64) k) 6)))) + (ath shaK k)) + (ath (schw b 64) k)) + ((((ror32 (ath (rounds s (schw b 64) k) 0) 2) ^^^ (ror32 (ath (rounds s (schw b 64) k) 0) 13)) ^^^ (ror32 (ath (rounds s (schw b 64) k) 0) 22)) + ((((ath (rounds s (schw b 64) k) 0) &&& (ath (rounds s (schw b 64) k) 1)) ^^^ ((ath (rounds s (schw b 64) k) 0) &&& (ath (rounds s (schw b 64) k) 2))) ^^^ ((ath (rounds s (schw b 64) k) 1) &&& (ath (rounds s (schw b 64) k) 2))))))), (1, (b32 (ath (rounds s (schw b 64) k) 0))), (2, (b32 (ath (rounds s (schw b 64) k) 1))), (3, (b32 (ath (rounds s (schw b 64) k) 2))), (4, (b32 ((ath (rounds s (schw b 64) k) 3) + (((((ath (rounds s (schw b 64) k) 7) + (((ror32 (ath (rounds s (schw b 64) k) 4) 6) ^^^ (ror32 (ath (rounds s (schw b 64) k) 4) 11)) ^^^ (ror32 (ath (rounds s (schw b 64) k) 4) 25))) + (((ath (rounds s (schw b 64) k) 4) &&& (ath (rounds s (schw b 64) k) 5)) ^^^ ((~~~(ath (rounds s (schw b 64) k) 4)) &&& (ath (rounds s (schw b 64) k) 6)))) + (ath shaK k)) + (ath (schw b 64) k))))), (5, (b32 (ath (rounds s (schw b 64) k) 4))), (6, (b32 (ath (rounds s (schw b 64) k) 5))), (7, (b32 (ath (rounds s (schw b 64) k) 6)))]) (v := .agg [(b32 ((((((ath (rounds s (schw b 64) k) 7) + (((ror32 (ath (rounds s (schw b 64) k) 4) 6) ^^^ (ror32 (ath (rounds s (schw b 64) k) 4) 11)) ^^^ (ror32 (ath (rounds s (schw b 64) k) 4) 25))) + (((ath (rounds s (schw b 64) k) 4) &&& (ath (rounds s (schw b 64) k) 5)) ^^^ ((~~~(ath (rounds s (schw b 64) k) 4)) &&& (ath (rounds s (schw b 64) k) 6)))) + (ath shaK k)) + (ath (schw b 64) k)) + ((((ror32 (ath (rounds s (schw b 64) k) 0) 2) ^^^ (ror32 (ath (rounds s (schw b 64) k) 0) 13)) ^^^ (ror32 (ath (rounds s (schw b 64) k) 0) 22)) + ((((ath (rounds s (schw b 64) k) 0) &&& (ath (rounds s (schw b 64) k) 1)) ^^^ ((ath (rounds s (schw b 64) k) 0) &&& (ath (rounds s (schw b 64) k) 2))) ^^^ ((ath (rounds s (schw b 64) k) 1) &&& (ath (rounds s (schw b 64) k) 2)))))), (b32 (ath (rounds s (schw b 64) k) 0)), (b32 (ath (rounds s (schw b 64) k) 1)), (b32 (ath (rounds s (schw b 64) k) 2)), (b32 ((ath (rounds s (schw b 64) k) 3) + (((((ath (rounds s (schw b 64) k) 7) + (((ror32 (ath (rounds s (schw b 64) k) 4) 6) ^^^ (ror32 (ath (rounds s (schw b 64) k) 4) 11)) ^^^ (ror32 (ath (rounds s (schw b 64) k) 4) 25))) + (((ath (rounds s (schw b 64) k) 4) &&& (ath (rounds s (schw b 64) k) 5)) ^^^ ((~~~(ath (rounds s (schw b 64) k) 4)) &&& (ath (rounds s (schw b 64) k) 6)))) + (ath shaK k)) + (ath (schw b 64) k)))), (b32 (ath (rounds s (schw b 64) k) 4)), (b32 (ath (rounds s (schw b 64) k) 5)), (b32 (ath (rounds s (schw b 64) k) 6))].toArray) (fun _ => by kernel_rfl) rfl rfl) rfl rfl ?_
   refine L_op rfl (op_sto (n := 8) (vs := [(b32 ((((((ath (rounds s (schw b 64) k) 7) + (((ror32 (ath (rounds s (schw b 64) k) 4) 6) ^^^ (ror32 (ath (rounds s (schw b 64) k) 4) 11)) ^^^ (ror32 (ath (rounds s (schw b 64) k) 4) 25))) + (((ath (rounds s (schw b 64) k) 4) &&& (ath (rounds s (schw b 64) k) 5)) ^^^ ((~~~(ath (rounds s (schw b 64) k) 4)) &&& (ath (rounds s (schw b 64) k) 6)))) + (ath shaK k)) + (ath (schw b 64) k)) + ((((ror32 (ath (rounds s (schw b 64) k) 0) 2) ^^^ (ror32 (ath (rounds s (schw b 64) k) 0) 13)) ^^^ (ror32 (ath (rounds s (schw b 64) k) 0) 22)) + ((((ath (rounds s (schw b 64) k) 0) &&& (ath (rounds s (schw b 64) k) 1)) ^^^ ((ath (rounds s (schw b 64) k) 0) &&& (ath (rounds s (schw b 64) k) 2))) ^^^ ((ath (rounds s (schw b 64) k) 1) &&& (ath (rounds s (schw b 64) k) 2)))))), (b32 (ath (rounds s (schw b 64) k) 0)), (b32 (ath (rounds s (schw b 64) k) 1)), (b32 (ath (rounds s (schw b 64) k) 2)), (b32 ((ath (rounds s (schw b 64) k) 3) + (((((ath (rounds s (schw b 64) k) 7) + (((ror32 (ath (rounds s (schw b 64) k) 4) 6) ^^^ (ror32 (ath (rounds s (schw b 64) k) 4) 11)) ^^^ (ror32 (ath (rounds s (schw b 64) k) 4) 25))) + (((ath (rounds s (schw b 64) k) 4) &&& (ath (rounds s (schw b 64) k) 5)) ^^^ ((~~~(ath (rounds s (schw b 64) k) 4)) &&& (ath (rounds s (schw b 64) k) 6)))) + (ath shaK k)) + (ath (schw b 64) k)))), (b32 (ath (rounds s (schw b 64) k) 4)), (b32 (ath (rounds s (schw b 64) k) 5)), (b32 (ath (rounds s (schw b 64) k) 6))]) 1 rfl rfl kr (by simp [Value.oneCell']) sd kr rfl rfl rfl rfl ?_)
   refine L_nil ?_
   refine T_reg hF rfl ?_
   refine lo rfl (pr_add (na_i64 (a := k) (b := 1) sd) rfl rfl rfl) rfl rfl ?_
   refine lm rfl rfl rfl rfl rfl ?_
   refine L_nil ?_
   refine T_as 0 _ (.blk g5 83 ((rounds s (schw b 64) (k + 1)).map b32)) rfl (by rw [rounds_succ]; rfl) ?_
   exact T_again (k + 1) (by first | trivial | ((try dsimp only); first | omega | (refine ⟨?_, ?_⟩ <;> omega) | (refine ⟨?_, ?_, ?_⟩ <;> omega) | (simp; done) | (simp; omega))) (by first | trivial | ((try dsimp only); first | omega | (refine ⟨?_, ?_⟩ <;> omega) | (refine ⟨?_, ?_, ?_⟩ <;> omega) | (simp; done) | (simp; omega))) (sc rfl (sc rfl (sc rfl (sc rfl (sc rfl (sc rfl sn)))))) [1, 0, 2, 3, 4, 5] ⟨by decide, rfl⟩
  ·
   have hc_27 := of_decide_eq_false hc_27
   refine T_exit rfl ?_
   obtain rfl : 64 = k := by omega
   refine T_seq ?_
   refine Tsr hF rfl ?_
   refine lm rfl rfl rfl rfl rfl ?_
   refine L_nil ?_
   refine T_block ?_
   refine T_as 3 _ (.blk g1 83 ((addt s (rounds s (schw b 64) 64) 0).map b32)) rfl (by rw [addt_zero]) ?_
   refine T_loop (T := Nat) (fun k => k ≤ 8) (fun k => [(3, (.pointer (some ⟨g1, 0, none⟩))), (6, (.pointer (some ⟨g2, 0, none⟩))), (7, (.pointer (some ⟨g5, 0, none⟩))), (110, (.int .i64 ((k : Nat) : Int)))]) (fun k => [.blk g6 81 ((schw b 64).map b32), .blk g5 83 ((rounds s (schw b 64) 64).map b32), .blk g2 83 [(b32 (0#32)), (b32 (0#32)), (b32 (0#32)), (b32 (0#32)), (b32 (0#32)), (b32 (0#32)), (b32 (0#32)), (b32 (0#32))], .blk g1 83 ((addt s (rounds s (schw b 64) 64) k).map b32), .rd (some ⟨gk, 0, none⟩) 1 64 64 (shaK.map b32), .rd A 1 64 c (b.map b8)]) (fun k => 8 - k) 0 (by first | trivial | ((try dsimp only); first | omega | (refine ⟨?_, ?_⟩ <;> omega) | (refine ⟨?_, ?_, ?_⟩ <;> omega) | (simp; done) | (simp; omega))) (sc rfl (sc rfl (sc rfl (sc rfl sn)))) [1, 2, 3, 0, 4, 5] ⟨by decide, rfl⟩ ?_
   rintro k hp
   have hp : k ≤ 8 := hp
   have hak := hal (rounds s (schw b 64) 64) k
   have hr64 := hrl 64
   refine T_re [(3, (.pointer (some ⟨g1, 0, none⟩))), (6, (.pointer (some ⟨g2, 0, none⟩))), (7, (.pointer (some ⟨g5, 0, none⟩))), (110, (.int .i64 ((k : Nat) : Int)))] (sc rfl (sc rfl (sc rfl (sc rfl sn)))) ?_
   refine T_he [0, 1, 2, 3, 4, 5] [.blk g6 81 ((schw b 64).map b32), .blk g5 83 ((rounds s (schw b 64) 64).map b32), .blk g2 83 [(b32 (0#32)), (b32 (0#32)), (b32 (0#32)), (b32 (0#32)), (b32 (0#32)), (b32 (0#32)), (b32 (0#32)), (b32 (0#32))], .blk g1 83 ((addt s (rounds s (schw b 64) 64) k).map b32), .rd (some ⟨gk, 0, none⟩) 1 64 64 (shaK.map b32), .rd A 1 64 c (b.map b8)] ⟨by decide, rfl⟩ ?_
   refine Tsr hF rfl ?_
   refine lo rfl (pr_cmp (bo := .lss) (nc_lt (a := k) (b := 8)) rfl rfl rfl rfl) rfl rfl ?_
   refine L_nil ?_
   refine T_seq ?_
   refine T_cond (decide (k < 8)) rfl (fun hc_40 => ?_) (fun hc_40 => ?_)
   ·
    have hc_40 := of_decide_eq_true hc_40
    refine T_skip ?_
    refine T_seq ?_
    refine T_block ?_
    refine Tsr hF rfl ?_
    refine lm rfl rfl rfl rfl rfl ?_
    refine la rfl rfl rfl rfl rfl ?_
    refine L_nil ?_
    refine T_regD [.blk g6 81 ((schw b 64).map b32), .blk g5 83 ((rounds s (schw b 64) 64).map b32), .blk g2 83 [(b32 (0#32)), (b32 (0#32)), (b32 (0#32)), (b32 (0#32)), (b32 (0#32)), (b32 (0#32)), (b32 (0#32)), (b32 (0#32))], .blk g1 83 ((addt s (rounds s (schw b 64) 64) k).map b32), .rd (some ⟨gk, 0, none⟩) 1 64 64 (shaK.map b32), .rd A 1 64 c (b.map b8)] 8 9 #[false, false, false, false, false, false, false, false, false] hF kr kr ?_
    refine D_pure (i := 0) [0, 1, 2, 3, 4, 5] rfl kr rfl (pr_move rfl rfl) (.inr rfl) rfl rfl ?_
    refine D_pure (i := 1) [0, 1, 2, 3, 4, 5] rfl kr rfl (pr_ixa (j := k) (m' := k) sd (by omega) Tryd.underlying83 (z := 1) kr rfl rfl rfl) (.inr rfl) rfl rfl ?_
    refine D_pure (i := 3) [0, 1, 2, 3, 4, 5] rfl kr rfl (pr_move rfl rfl) (.inr rfl) rfl rfl ?_
    refine D_pure (i := 4) [0, 1, 2, 3, 4, 5] rfl kr rfl (pr_ixa (j := k) (m' := k) sd (by omega) Tryd.underlying83 (z := 1) kr rfl rfl rfl) (.inr rfl) rfl rfl ?_
    refine D_take (i := 2) [0, 1, 2, 3, 4, 5] rfl kr rfl (ld_blk 3 rfl (get32 sd) Tryd.underlying25 rfl rfl rfl) rfl rfl rfl ?_
    refine D_take (i := 5) [0, 1, 2, 3, 4, 5] rfl kr rfl (ld_blk 1 rfl (get32 sd) Tryd.underlying25 rfl rfl rfl) rfl rfl rfl ?_
    refine D_pure (i := 6) [0, 1, 2, 3, 4, 5] rfl kr rfl (pr_add (add32 _ _) rfl rfl rfl) (.inr rfl) rfl rfl ?_
    refine D_pure (i := 7) [0, 1, 2, 3, 4, 5] rfl kr rfl (pr_ixa (j := k) (m' := k) sd (by omega) Tryd.underlying83 (z := 1) kr rfl rfl rfl) (.inr rfl) rfl rfl ?_
    refine D_one 8 _ rfl kr rfl (op_store (vs := [(b32 ((ath (addt s (rounds s (schw b 64) 64) k) k) + (ath (rounds s (schw b 64) 64) k)))]) (cs' := ((List.set (addt s (rounds s (schw b 64) 64) k) k ((ath (addt s (rounds s (schw b 64) 64) k) k) + (ath (rounds s (schw b 64) 64) k))).map b32)) 3 rfl rfl kr (one_one rfl) (stl sd) (splice_map (f := b32) sd) rfl rfl rfl rfl ?_)
    refine D_past kr ?_
    refine D_done kr ?_
    refine T_reg hF rfl ?_
    refine lo rfl (pr_add (na_i64 (a := k) (b := 1) sd) rfl rfl rfl) rfl rfl ?_
    refine lm rfl rfl rfl rfl rfl ?_
    refine L_nil ?_
    refine T_as 0 _ (.blk g1 83 ((addt s (rounds s (schw b 64) 64) (k + 1)).map b32)) rfl (by rw [addt_succ]) ?_
    exact T_again (k + 1) (by first | trivial | ((try dsimp only); first | omega | (refine ⟨?_, ?_⟩ <;> omega) | (refine ⟨?_, ?_, ?_⟩ <;> omega) | (simp; done) | (simp; omega))) (by first | trivial | ((try dsimp only); first | omega | (refine ⟨?_, ?_⟩ <;> omega) | (refine ⟨?_, ?_, ?_⟩ <;> omega) | (simp; done) | (simp; omega))) (sc rfl (sc rfl (sc rfl (sc rfl sn)))) [1, 2, 3, 0, 4, 5] ⟨by decide, rfl⟩
   ·
    have hc_40 := of_decide_eq_false hc_40
    refine T_exit rfl ?_
    refine Tsr hF rfl ?_
    refine lq rfl (ld_agg (ds := ((addt s (rounds s (schw b 64) 64) k).map b32)) 3 rfl agg_all Tryd.underlying83 rfl (fwz (n := 8) kr sd) rfl rfl) rfl rfl ?_
    refine L_op rfl (op_sto (n := 8) (vs := ((addt s (rounds s (schw b 64) 64) k).map b32)) 2 rfl rfl kr (all32_one _) kr sd rfl rfl rfl rfl ?_)
    refine L_nil ?_
    refine T_ret ?_
    obtain rfl : 8 = k := by omega
    refine T_as 0 _ (.blk g2 83 ((mixb s b).map b32)) rfl (by rw [mixb_def]) ?_
    exact T_fin () (by first | trivial | omega | (simp; done)) (resb 0 rfl rfl rfl Tryd.underlying83 rfl (fwz (n := 8) kr sd)) [] ⟨by decide, rfl⟩ rfl
end Go.Proofs.YtlplpmkdebemnaaDoor
namespace Go.Proofs.YtlplpmkdebemnaaDoor
set_option linter.unusedVariables false
set_option linter.unusedSimpArgs false
set_option linter.unnecessarySimpa false
set_option maxRecDepth 100000
open Go.RowKit Bv Fw

set_option maxHeartbeats 4000000 in
theorem chunk_seq (b : List (BitVec 8)) (z : Nat) (A : Option Addr) (n : Nat) (c : Nat) (g1 : Nat) (g2 : Nat) (hz : 0 < z) (hz2 : z ≤ 1000000) (hb : b.length = n) (hn : n ≤ 100000000000000) : SeqC (Θ := Option Addr) Tryd.prog 75 [(.pointer (some ⟨g1, 0, none⟩)), (.pointer (some ⟨g2, 0, none⟩))] [.rd (some ⟨g1, 0, none⟩) 1 1 1 [(.slice A n c)], .rd (some ⟨g2, 0, none⟩) 1 1 1 [(.int .i64 ((z : Nat) : Int))], .rd A 1 n c (b.map b8)] ((n + z - 1) / z) (fun k B => [(.slice B (min z (n - z * k)) (min z (n - z * k)))]) (fun k B => [.rd B 1 (min z (n - z * k)) (min z (n - z * k)) ((List.take (min z (n - z * k)) (List.drop (z * k) b)).map b8)]) := by
 have hF : Wid Fence.wide := wid_wide
 refine enter_seq (c := _) Tryd.func75 rfl (by rw [Tryd.ntmps75]; rfl) rfl ?_
 intro l J Jx W O R hsJ hsX hy hend
 rw [Tryd.ntmps75]
 refine T_re [(0, (.func (.yield l) #[] #[])), (1, (.pointer (some ⟨g1, 0, none⟩))), (2, (.pointer (some ⟨g2, 0, none⟩)))] (sc rfl (sc rfl (sc rfl sn))) ?_
 refine T_he [0, 1, 2, 3] [.inv W.heap.size O R (J 0 O R), .rd (some ⟨g1, 0, none⟩) 1 1 1 [(.slice A n c)], .rd (some ⟨g2, 0, none⟩) 1 1 1 [(.int .i64 ((z : Nat) : Int))], .rd A 1 n c (b.map b8)] ⟨by decide, rfl⟩ ?_
 refine Tsr hF rfl ?_
 refine la rfl rfl rfl rfl rfl ?_
 refine L_nil ?_
 refine T_block ?_
 refine T_slot 4 (.int .i64 ((0 : Nat) : Int)) (.int .i64 ((z * 0 : Nat) : Int)) rfl (by first | rfl | (congr 2; omega) | (simp; omega)) ?_
 refine T_loop (T := Nat × List Nat × List Nat) (fun ⟨k, O, R⟩ => k ≤ (n + z - 1) / z) (fun ⟨k, O, R⟩ => [(0, (.func (.yield l) #[] #[])), (1, (.pointer (some ⟨g1, 0, none⟩))), (2, (.pointer (some ⟨g2, 0, none⟩))), (4, (.int .i64 ((z * k : Nat) : Int)))]) (fun ⟨k, O, R⟩ => [.inv W.heap.size O R (J k O R), .rd (some ⟨g1, 0, none⟩) 1 1 1 [(.slice A n c)], .rd (some ⟨g2, 0, none⟩) 1 1 1 [(.int .i64 ((z : Nat) : Int))], .rd A 1 n c (b.map b8)]) (fun ⟨k, O, R⟩ => (n + z - 1) / z - k) (0, O, R) (by first | trivial | ((try dsimp only); first | omega | (refine ⟨?_, ?_⟩ <;> omega) | (refine ⟨?_, ?_, ?_⟩ <;> omega) | (simp; done) | (simp; omega))) (sc rfl (sc rfl (sc rfl (sc rfl sn)))) [0, 1, 2, 3] ⟨by decide, rfl⟩ ?_
 rintro ⟨k, O, R⟩ hp
 have hp : k ≤ (n + z - 1) / z := hp
 have hmk := chunk_mul z n k hz hp
 have hmk1 : z * (k + 1) = z * k + z := Nat.mul_succ z k
 refine T_re [(0, (.func (.yield l) #[] #[])), (1, (.pointer (some ⟨g1, 0, none⟩))), (2, (.pointer (some ⟨g2, 0, none⟩))), (4, (.int .i64 ((z * k : Nat) : Int)))] (sc rfl (sc rfl (sc rfl (sc rfl sn)))) ?_
 refine T_he [0, 1, 2, 3] [.inv W.heap.size O R (J k O R), .rd (some ⟨g1, 0, none⟩) 1 1 1 [(.slice A n c)], .rd (some ⟨g2, 0, none⟩) 1 1 1 [(.int .i64 ((z : Nat) : Int))], .rd A 1 n c (b.map b8)] ⟨by decide, rfl⟩ ?_
 refine T_seq ?_
 refine Tsr hF rfl ?_
 refine lm rfl rfl rfl rfl rfl ?_
 refine lq rfl (ld_rdb (src_rd 1 rfl) rfl Tryd.underlying29 rfl rfl rfl) rfl rfl ?_
 refine lo rfl (pr_len_sl Tryd.underlying29 rfl rfl) rfl rfl ?_
 refine lo rfl (pr_cmp (bo := .lss) (nc_lt (a := z * k) (b := n)) rfl rfl rfl rfl) rfl rfl ?_
 refine L_nil ?_
 refine T_cond (decide (z * k < n)) rfl (fun hc_1 => ?_) (fun hc_1 => ?_)
 ·
  have hc_1 := of_decide_eq_true hc_1
  refine T_skip ?_
  refine T_seq ?_
  refine T_block ?_
  refine T_seq ?_
  refine T_regD [.inv W.heap.size O R (J k O R), .rd (some ⟨g1, 0, none⟩) 1 1 1 [(.slice A n c)], .rd (some ⟨g2, 0, none⟩) 1 1 1 [(.int .i64 ((z : Nat) : Int))], .rd A 1 n c (b.map b8)] 7 7 #[false, false, false, false, false, false, false] hF kr kr ?_
  refine D_pure (i := 2) [0, 1, 2, 3] rfl kr rfl (pr_move rfl rfl) (.inr rfl) rfl rfl ?_
  refine D_take (i := 0) [0, 1, 2, 3] rfl kr rfl (ld_rdb (src_rd 2 rfl) rfl Tryd.underlying3 rfl rfl rfl) rfl rfl rfl ?_
  refine D_take (i := 1) [0, 1, 2, 3] rfl kr rfl (ld_rdb (src_rd 1 rfl) rfl Tryd.underlying29 rfl rfl rfl) rfl rfl rfl ?_
  refine D_one 3 _ rfl kr rfl (op_slice_rd (l := z * k) (u := n) 3 rfl sd sd Tryd.underlying29 kr rfl rfl ⟨_, rfl⟩ rfl rfl rfl (fun B2 => ?_))
  refine T_as 0 _ (.rd B2 1 (n - (z * k)) (c - (z * k)) ((List.drop (z * k) b).map b8)) rfl (by congr 1; first | rfl | (rw [List.take_of_length_le (by simp; omega)]; simp)) ?_
  refine D_on [1, 2, 3, 4] rfl ?_
  refine D_pure (i := 4) [1, 2, 3, 4] rfl kr rfl (pr_len_sl Tryd.underlying29 rfl rfl) (.inr rfl) rfl rfl ?_
  refine D_pure (i := 5) [1, 2, 3, 4] rfl kr rfl ((pr_as (pr_min rfl rfl rfl) (nmin (k := .i64) (a := z) (b := n - (z * k))))) (.inr rfl) rfl rfl ?_
  refine D_pure (i := 6) [1, 2, 3, 4] rfl kr rfl (pr_assign rfl rfl) (.inr rfl) rfl rfl ?_
  refine D_done kr ?_
  refine T_seq ?_
  refine T_regI ?_
  refine LI_opP hF rfl rfl (op_pr (pr_move rfl rfl) rfl rfl ?_)
  refine LI_opP hF rfl rfl (op_ld (ld_rdb (src_rd 2 rfl) rfl Tryd.underlying29 rfl rfl rfl) rfl rfl ?_)
  refine LI_opP hF rfl rfl (op_pr (pr_move rfl rfl) rfl rfl ?_)
  refine LI_opP hF rfl rfl (op_pr (pr_move rfl rfl) rfl rfl ?_)
  refine LI_opP hF rfl rfl (op_pr (pr_move rfl rfl) rfl rfl ?_)
  refine LI_opP hF rfl rfl (op_pr (pr_add (na_i64 (a := z * k) (b := min z (n - (z * k))) sd) rfl rfl rfl) rfl rfl ?_)
  refine LI_opP hF rfl rfl (op_pr (pr_move rfl rfl) rfl rfl ?_)
  refine LI_opP hF rfl rfl (op_pr (pr_move rfl rfl) rfl rfl ?_)
  refine LI_opP hF rfl rfl (op_pr (pr_add (na_i64 (a := z * k) (b := min z (n - (z * k))) sd) rfl rfl rfl) rfl rfl ?_)
  refine LI_opP hF rfl rfl (op_slice3_rd (l := z * k) (u := z * k + (min z (n - (z * k)))) 4 rfl sd sd Tryd.underlying29 kr rfl rfl rfl rfl rfl rfl rfl (fun B3 => ?_))
  refine T_as 0 _ (.rd B3 1 (z * k + (min z (n - (z * k))) - (z * k)) (z * k + (min z (n - (z * k))) - (z * k)) ((List.take (z * k + (min z (n - (z * k))) - (z * k)) (List.drop (z * k) b)).map b8)) rfl (by congr 1; simp [List.map_take, List.map_drop]) ?_
  refine T_slot 28 _ (.slice B3 (min z (n - z * k)) (min z (n - z * k))) rfl (by congr 1 <;> omega) ?_
  refine T_as 0 _ (.rd B3 1 (min z (n - z * k)) (min z (n - z * k)) ((List.take (min z (n - z * k)) (List.drop (z * k) b)).map b8)) rfl (by congr 1 <;> simp) ?_
  refine LI_op rfl (op_yield (k := k) (B3 : Option Addr) hy (chunk_lt z n k hz (by assumption)) hsJ hsX 2 rfl [0] rfl rfl rfl rfl rfl rfl rfl rfl rfl (fun _ => trivial) (fun O4 R5 => ?_) (fun O6 R7 => ?_))
  ·
   refine LI_opP hF rfl rfl (op_pr (pr_un (v := .bool false) rfl rfl rfl) rfl rfl ?_)
   refine LI_nil ?_
   refine T_cond_f rfl ?_
   refine T_skip ?_
   refine T_reg hF rfl ?_
   refine lm rfl rfl rfl rfl rfl ?_
   refine lq rfl (ld_rdb (src_rd 4 rfl) rfl Tryd.underlying3 rfl rfl rfl) rfl rfl ?_
   refine lo rfl (pr_add (na_i64 (a := z * k) (b := z) sd) rfl rfl rfl) rfl rfl ?_
   refine la rfl rfl rfl rfl rfl ?_
   refine L_nil ?_
   refine T_slot 4 (.int .i64 ((z * k + z : Nat) : Int)) (.int .i64 ((z * (k + 1) : Nat) : Int)) rfl (by rw [hmk1]) ?_
   exact T_again (k + 1, O4, R5) (chunk_le z n k hz (by assumption)) (by have := chunk_lt z n k hz (by assumption); dsimp only; omega) (sc rfl (sc rfl (sc rfl (sc rfl sn)))) [0, 3, 4, 5] ⟨by decide, rfl⟩
  ·
   refine LI_opP hF rfl rfl (op_pr (pr_un (v := .bool true) rfl rfl rfl) rfl rfl ?_)
   refine LI_nil ?_
   refine T_cond_t rfl ?_
   refine T_ret ?_
   exact T_finX rfl rfl 0 rfl
 ·
  have hc_1 := of_decide_eq_false hc_1
  refine T_exit rfl ?_
  obtain rfl : k = (n + z - 1) / z := chunk_ge z n k hz (by assumption) (by assumption)
  exact T_finJ rfl rfl 0 rfl
set_option maxHeartbeats 4000000 in
theorem chunk_f (A : Option Addr) (n : Nat) (c : Nat) (z : Nat) (w : World) (hO : HOK [] w) (hz : 0 < z) : Calls Tryd.prog 70 [(.slice A n c), (.int .i64 ((z : Nat) : Int))].toArray w (Ret (T := Nat × Nat) [] w (fun ⟨g1, g2⟩ => True) (fun ⟨g1, g2⟩ => (.func (.func 75) #[] [(.pointer (some ⟨g1, 0, none⟩)), (.pointer (some ⟨g2, 0, none⟩))].toArray)) (fun ⟨g1, g2⟩ => [.old (some ⟨g1, 0, none⟩) 1 1 1 [(.slice A n c)], .old (some ⟨g2, 0, none⟩) 1 1 1 [(.int .i64 ((z : Nat) : Int))]])) := by
 have hF : Wid Fence.wide := wid_wide
 refine enter (c := _) Tryd.func70 rfl [] _ [] (by rw [Tryd.ntmps70]; rfl) (own_rds hO rfl) ?_
 rw [Tryd.ntmps70]
 refine T_re [(0, (.slice A n c)), (1, (.int .i64 ((z : Nat) : Int)))] (sc rfl (sc rfl sn)) ?_
 refine T_he [] [] ⟨by decide, rfl⟩ ?_
 refine Tsr hF rfl ?_
 refine L_op rfl (op_box (zs := [(.slice A n c)]) rfl rfl rfl rfl rfl (fun g1 => ?_))
 refine L_op rfl (op_box (zs := [(.int .i64 ((z : Nat) : Int))]) rfl rfl rfl rfl rfl (fun g2 => ?_))
 refine la rfl rfl rfl rfl rfl ?_
 refine L_nil ?_
 refine T_seq ?_
 refine Tsr hF rfl ?_
 refine lq rfl (ld_blk 0 rfl rfl Tryd.underlying3 rfl rfl rfl) rfl rfl ?_
 refine lo rfl (pr_cmp (bo := .lss) (nc_lt (a := z) (b := 1)) rfl rfl rfl rfl) rfl rfl ?_
 refine L_nil ?_
 refine T_cond_no (t := decide (z < 1)) rfl (by rw [decide_eq_false_iff_not]; omega) ?_
 refine T_skip ?_
 refine Tsr hF rfl ?_
 refine lo rfl (pr_mkfn (us := []) (vs := [(.pointer (some ⟨g1, 0, none⟩)), (.pointer (some ⟨g2, 0, none⟩))]) rfl rfl rfl) rfl rfl ?_
 refine la rfl rfl rfl rfl rfl ?_
 refine L_nil ?_
 refine T_ret ?_
 refine T_oldb 1 (zs := [(.slice A n c)]) 0 1 1 1 rfl rfl rfl sd sd ?_
 refine T_oldb 1 (zs := [(.int .i64 ((z : Nat) : Int))]) 0 1 1 1 rfl rfl rfl sd sd ?_
 exact T_fin (g1, g2) (by first | trivial | omega | (simp; done)) (res1 rfl rfl) [1, 0] ⟨by decide, rfl⟩ rfl
end Go.Proofs.YtlplpmkdebemnaaDoor
namespace Go.Proofs.YtlplpmkdebemnaaDoor
set_option linter.unusedVariables false
set_option linter.unusedSimpArgs false
set_option linter.unnecessarySimpa false
set_option maxRecDepth 100000
open Go.RowKit Bv Fw

set_option maxHeartbeats 4000000 in
theorem grow_f (n : Nat) (w : World) (hO : HOK [] w) (hn : n ≤ 100000000000000) : Calls Tryd.prog 74 [(.slice none 0 0), (.int .i64 ((n : Nat) : Int))].toArray w (Ret (T := Option Addr × Nat) [] w (fun ⟨B, d⟩ => True) (fun ⟨B, d⟩ => (.slice B 0 d)) (fun ⟨B, d⟩ => [.row (.slice B 0 d) 5 1 0 []])) := by
 have hF : Wid Fence.wide := wid_wide
 refine enter (c := _) Tryd.func74 rfl [] _ [] (by rw [Tryd.ntmps74]; rfl) (own_rds hO rfl) ?_
 rw [Tryd.ntmps74]
 refine T_re [(0, (.slice none 0 0)), (1, (.int .i64 ((n : Nat) : Int)))] (sc rfl (sc rfl sn)) ?_
 refine T_he [] [] ⟨by decide, rfl⟩ ?_
 refine Tsr hF rfl ?_
 refine la rfl rfl rfl rfl rfl ?_
 refine L_nil ?_
 refine T_seq ?_
 refine Tsr hF rfl ?_
 refine lm rfl rfl rfl rfl rfl ?_
 refine lo rfl (pr_cmp (bo := .lss) (nc_lt (a := n) (b := 0)) rfl rfl rfl rfl) rfl rfl ?_
 refine L_nil ?_
 refine T_cond_f rfl ?_
 refine T_skip ?_
 refine T_seq ?_
 refine Tsr hF rfl ?_
 refine lm rfl rfl rfl rfl rfl ?_
 refine lm rfl rfl rfl rfl rfl ?_
 refine lo rfl (pr_cap_sl Tryd.underlying29 rfl rfl) rfl rfl ?_
 refine lm rfl rfl rfl rfl rfl ?_
 refine lo rfl (pr_len_sl Tryd.underlying29 rfl rfl) rfl rfl ?_
 refine lo rfl (pr_sub (ns_i64 (a := 0) (b := 0) sd sd) rfl rfl rfl) rfl rfl ?_
 refine lo rfl (pr_sub (ns_i64 (a := n) (b := 0 - 0) sd sd) rfl rfl rfl) rfl rfl ?_
 refine la rfl rfl rfl rfl rfl ?_
 refine L_nil ?_
 refine Tsr hF rfl ?_
 refine lm rfl rfl rfl rfl rfl ?_
 refine lo rfl (pr_cmp (bo := .gtr) (nc_lt (a := 0) (b := n - (0 - 0))) rfl rfl rfl rfl) rfl rfl ?_
 refine L_nil ?_
 refine T_cond (decide (0 < n - (0 - 0))) rfl (fun hc_1 => ?_) (fun hc_1 => ?_)
 ·
  have hc_1 := of_decide_eq_true hc_1
  refine T_reg hF rfl ?_
  refine lm rfl rfl rfl rfl rfl ?_
  refine lm rfl rfl rfl rfl rfl ?_
  refine lo rfl (pr_cap_sl Tryd.underlying29 rfl rfl) rfl rfl ?_
  refine T_nilrow 5 1 ?_
  refine L_op rfl (op_reslice (u := 0) 0 rfl sd Tryd.underlying29 kr rfl rfl rfl rfl rfl ?_)
  refine T_as 0 _ (.row (.slice none 0 0) 5 1 0 []) rfl (by first | rfl | (congr 1; simp [List.map_take])) ?_
  refine lm rfl rfl rfl rfl rfl ?_
  refine L_op rfl (op_append0 (z := (b8 (0#8))) (bytes := 1) (m := n - (0 - 0)) 0 rfl Tryd.underlying29 Tryd.underlying3 kr rfl rfl sd sd rfl rfl rfl rfl rfl (fun A2 C3 => ?_))
  refine T_as 0 _ (.row (.slice A2 (0 + (n - (0 - 0))) C3) 5 1 (0 + (n - (0 - 0))) ((List.replicate (n - (0 - 0)) 0#8).map b8)) rfl (by first | rfl | (congr 1; simp)) ?_
  refine lm rfl rfl rfl rfl rfl ?_
  refine lo rfl (pr_len_sl Tryd.underlying29 rfl rfl) rfl rfl ?_
  refine L_op rfl (op_reslice (u := 0) 0 rfl sd Tryd.underlying29 kr rfl rfl rfl rfl rfl ?_)
  refine T_as 0 _ (.row (.slice A2 0 C3) 5 1 0 []) rfl (by first | rfl | (congr 1; simp [List.map_take])) ?_
  refine la rfl rfl rfl rfl rfl ?_
  refine L_nil ?_
  refine Tsr hF rfl ?_
  refine lm rfl rfl rfl rfl rfl ?_
  refine la rfl rfl rfl rfl rfl ?_
  refine L_nil ?_
  refine T_ret ?_
  exact T_fin (A2, C3) (by first | trivial | omega | (simp; done)) (res1 rfl rfl) [0] ⟨by decide, rfl⟩ rfl
 ·
  have hc_1 := of_decide_eq_false hc_1
  refine T_skip ?_
  refine Tsr hF rfl ?_
  refine lm rfl rfl rfl rfl rfl ?_
  refine la rfl rfl rfl rfl rfl ?_
  refine L_nil ?_
  refine T_ret ?_
  refine T_nilrow 5 1 ?_
  exact T_fin (none, 0) (by first | trivial | omega | (simp; done)) (res1 rfl rfl) [0] ⟨by decide, rfl⟩ rfl
set_option maxHeartbeats 4000000 in
theorem concat_f (Q : List Pt) (A : Option Addr) (n : Nat) (c : Nat) (w : World) (hO : HOK [.rd A 1 n c (Q.map Pt.sl), .all Q] w) (hn : Q.length = n) (hs : (catp Q).length ≤ 100000000000000) (hn2 : n ≤ 100000000000000) : Calls Tryd.prog 67 [(.slice A n c)].toArray w (Ret (T := Option Addr × Nat) [] w (fun ⟨B, d⟩ => True) (fun ⟨B, d⟩ => (.slice B ((catp Q).length) d)) (fun ⟨B, d⟩ => [.row (.slice B ((catp Q).length) d) 5 1 ((catp Q).length) ((catp Q).map b8)])) := by
 have hF : Wid Fence.wide := wid_wide
 refine enter (c := _) Tryd.func67 rfl [] _ [.rd A 1 n c (Q.map Pt.sl), .all Q] (by rw [Tryd.ntmps67]; rfl) (own_rds hO rfl) ?_
 rw [Tryd.ntmps67]
 refine T_re [(0, (.slice A n c))] (sc rfl sn) ?_
 refine T_he [0, 1] [.rd A 1 n c (Q.map Pt.sl), .all Q] ⟨by decide, rfl⟩ ?_
 refine Tsr hF rfl ?_
 refine la rfl rfl rfl rfl rfl ?_
 refine L_nil ?_
 refine Tsr hF rfl ?_
 refine la rfl rfl rfl rfl rfl ?_
 refine L_nil ?_
 refine T_seq ?_
 refine Tsr hF rfl ?_
 refine lm rfl rfl rfl rfl rfl ?_
 refine lo rfl (pr_len_sl Tryd.underlying86 rfl rfl) rfl rfl ?_
 refine lm rfl rfl rfl rfl rfl ?_
 refine L_nil ?_
 refine T_block ?_
 refine T_slot 3 (.int .i64 ((0 : Nat) : Int)) (.int .i64 (((catp (Q.take 0)).length : Nat) : Int)) rfl (rfl) ?_
 refine T_loop (T := Nat) (fun k => k ≤ n) (fun k => [(0, (.slice A n c)), (3, (.int .i64 (((catp (Q.take k)).length : Nat) : Int))), (9, (.slice A n c)), (10, (.int .i64 ((n : Nat) : Int))), (11, (.int .i64 ((k : Nat) : Int)))]) (fun k => [.rd A 1 n c (Q.map Pt.sl), .all Q]) (fun k => n - k) 0 (by first | trivial | ((try dsimp only); first | omega | (refine ⟨?_, ?_⟩ <;> omega) | (refine ⟨?_, ?_, ?_⟩ <;> omega) | (simp; done) | (simp; omega))) (sc rfl (sc rfl (sc rfl (sc rfl (sc rfl sn))))) [0, 1] ⟨by decide, rfl⟩ ?_
 rintro k hp
 have hp : k ≤ n := hp
 have hle := catp_le Q k
 have hle1 := catp_le Q (k + 1)
 have hct : k < n → (catp (Q.take (k + 1))).length = (catp (Q.take k)).length + (pat Q k).xs.length := fun h => by rw [catp_take (by omega), List.length_append]
 refine T_re [(0, (.slice A n c)), (3, (.int .i64 (((catp (Q.take k)).length : Nat) : Int))), (9, (.slice A n c)), (10, (.int .i64 ((n : Nat) : Int))), (11, (.int .i64 ((k : Nat) : Int)))] (sc rfl (sc rfl (sc rfl (sc rfl (sc rfl sn))))) ?_
 refine T_he [0, 1] [.rd A 1 n c (Q.map Pt.sl), .all Q] ⟨by decide, rfl⟩ ?_
 refine Tsr hF rfl ?_
 refine lo rfl (pr_cmp (bo := .lss) (nc_lt (a := k) (b := n)) rfl rfl rfl rfl) rfl rfl ?_
 refine L_nil ?_
 refine T_seq ?_
 refine T_cond (decide (k < n)) rfl (fun hc_1 => ?_) (fun hc_1 => ?_)
 ·
  have hc_1 := of_decide_eq_true hc_1
  refine T_skip ?_
  refine T_seq ?_
  refine T_block ?_
  refine Tsr hF rfl ?_
  refine lo rfl (pr_ixs1 (j := k) (src_none (src_rd 0 rfl)) sd Tryd.underlying86 kr rfl rfl rfl) rfl rfl ?_
  refine lq rfl (ld_src (m := k) (src_rd 0 rfl) (pat_get sd) Tryd.underlying29 rfl rfl rfl) rfl rfl ?_
  refine T_ofall 1 rfl (pat_mem (L := Q) (j := k) sd) (fun hl_2 hm_3 => ?_)
  refine la rfl rfl rfl rfl rfl ?_
  refine L_nil ?_
  refine Tsr hF rfl ?_
  refine lm rfl rfl rfl rfl rfl ?_
  refine lm rfl rfl rfl rfl rfl ?_
  refine lo rfl (pr_len_sl Tryd.underlying29 rfl rfl) rfl rfl ?_
  refine lo rfl (pr_add (na_i64 (a := (catp (Q.take k)).length) (b := (pat Q k).n) sd) rfl rfl rfl) rfl rfl ?_
  refine la rfl rfl rfl rfl rfl ?_
  refine L_nil ?_
  refine Tsr hF rfl ?_
  refine lm rfl rfl rfl rfl rfl ?_
  refine lo rfl (pr_cmp (bo := .lss) (nc_lt (a := (catp (Q.take k)).length + ((pat Q k).n)) (b := 0)) rfl rfl rfl rfl) rfl rfl ?_
  refine L_nil ?_
  refine T_cond_f rfl ?_
  refine T_skip ?_
  refine T_reg hF rfl ?_
  refine lo rfl (pr_add (na_i64 (a := k) (b := 1) sd) rfl rfl rfl) rfl rfl ?_
  refine lm rfl rfl rfl rfl rfl ?_
  refine L_nil ?_
  refine T_slot 3 _ (.int .i64 (((catp (Q.take (k + 1))).length : Nat) : Int)) rfl (by rw [hct (by assumption)]; congr 2; omega) ?_
  exact T_again (k + 1) (by first | trivial | ((try dsimp only); first | omega | (refine ⟨?_, ?_⟩ <;> omega) | (refine ⟨?_, ?_, ?_⟩ <;> omega) | (simp; done) | (simp; omega))) (by first | trivial | ((try dsimp only); first | omega | (refine ⟨?_, ?_⟩ <;> omega) | (refine ⟨?_, ?_, ?_⟩ <;> omega) | (simp; done) | (simp; omega))) (sc rfl (sc rfl (sc rfl (sc rfl (sc rfl sn))))) [1, 2] ⟨by decide, rfl⟩
 ·
  have hc_1 := of_decide_eq_false hc_1
  refine T_exit rfl ?_
  obtain rfl : n = k := by omega
  refine Tsr hF rfl ?_
  refine lm rfl rfl rfl rfl rfl ?_
  refine L_op rfl (op_cn (fun w hw => grow_f ((catp (Q.take n)).length) w (hok_nil w) sd) (enters_of Tryd.func74 kr rfl) rfl rfl rfl rfl rfl (fun t4 q5 => ?_))
  obtain ⟨B6, d7⟩ := t4
  refine la rfl rfl rfl rfl rfl ?_
  refine L_nil ?_
  refine T_seq ?_
  refine Tsr hF rfl ?_
  refine lm rfl rfl rfl rfl rfl ?_
  refine lo rfl (pr_len_sl Tryd.underlying86 rfl rfl) rfl rfl ?_
  refine lm rfl rfl rfl rfl rfl ?_
  refine L_nil ?_
  refine T_block ?_
  refine T_slot 6 (.slice B6 0 d7) (.slice B6 ((catp (Q.take 0)).length) d7) rfl (rfl) ?_
  refine T_as 0 _ (.row (.slice B6 ((catp (Q.take 0)).length) d7) 5 1 ((catp (Q.take 0)).length) ((catp (Q.take 0)).map b8)) rfl (rfl) ?_
  refine T_loop (T := Nat × Option Addr × Nat) (fun ⟨k, A1, c1⟩ => k ≤ n) (fun ⟨k, A1, c1⟩ => [(6, (.slice A1 ((catp (Q.take k)).length) c1)), (25, (.slice A n c)), (26, (.int .i64 ((n : Nat) : Int))), (27, (.int .i64 ((k : Nat) : Int)))]) (fun ⟨k, A1, c1⟩ => [.row (.slice A1 ((catp (Q.take k)).length) c1) 5 1 ((catp (Q.take k)).length) ((catp (Q.take k)).map b8), .rd A 1 n c (Q.map Pt.sl), .all Q]) (fun ⟨k, A1, c1⟩ => n - k) (0, B6, d7) (by first | trivial | ((try dsimp only); first | omega | (refine ⟨?_, ?_⟩ <;> omega) | (refine ⟨?_, ?_, ?_⟩ <;> omega) | (simp; done) | (simp; omega))) (sc rfl (sc rfl (sc rfl (sc rfl sn)))) [0, 1, 2] ⟨by decide, rfl⟩ ?_
  rintro ⟨k, A1, c1⟩ hp
  have hp : k ≤ n := hp
  have hle := catp_le Q k
  have hle1 := catp_le Q (k + 1)
  have hct : k < n → (catp (Q.take (k + 1))).length = (catp (Q.take k)).length + (pat Q k).xs.length := fun h => by rw [catp_take (by omega), List.length_append]
  refine T_re [(6, (.slice A1 ((catp (Q.take k)).length) c1)), (25, (.slice A n c)), (26, (.int .i64 ((n : Nat) : Int))), (27, (.int .i64 ((k : Nat) : Int)))] (sc rfl (sc rfl (sc rfl (sc rfl sn)))) ?_
  refine T_he [0, 1, 2] [.row (.slice A1 ((catp (Q.take k)).length) c1) 5 1 ((catp (Q.take k)).length) ((catp (Q.take k)).map b8), .rd A 1 n c (Q.map Pt.sl), .all Q] ⟨by decide, rfl⟩ ?_
  refine Tsr hF rfl ?_
  refine lo rfl (pr_cmp (bo := .lss) (nc_lt (a := k) (b := n)) rfl rfl rfl rfl) rfl rfl ?_
  refine L_nil ?_
  refine T_seq ?_
  refine T_cond (decide (k < n)) rfl (fun hc_8 => ?_) (fun hc_8 => ?_)
  ·
   have hc_8 := of_decide_eq_true hc_8
   refine T_skip ?_
   refine T_seq ?_
   refine T_block ?_
   refine Tsr hF rfl ?_
   refine lo rfl (pr_ixs1 (j := k) (src_none (src_rd 1 rfl)) sd Tryd.underlying86 kr rfl rfl rfl) rfl rfl ?_
   refine lq rfl (ld_src (m := k) (src_rd 1 rfl) (pat_get sd) Tryd.underlying29 rfl rfl rfl) rfl rfl ?_
   refine T_ofall 2 rfl (pat_mem (L := Q) (j := k) sd) (fun hl_9 hm_10 => ?_)
   refine la rfl rfl rfl rfl rfl ?_
   refine L_nil ?_
   refine T_reg hF rfl ?_
   refine lm rfl rfl rfl rfl rfl ?_
   refine lm rfl rfl rfl rfl rfl ?_
   refine L_op rfl (op_append (z := (b8 (0#8))) (size := 1) (bytes := 1) 1 rfl Tryd.underlying29 kr kr (by decide) (src_rd 0 rfl) (all8_one _) sd sd rfl rfl rfl rfl rfl (fun A11 C12 => ?_))
   refine T_as 0 _ (.row (.slice A11 ((catp (Q.take k)).length + ((pat Q k).n)) C12) 5 1 ((catp (Q.take k)).length + ((pat Q k).n)) (((catp (Q.take k)) ++ (pat Q k).xs).map b8)) rfl (by first | rfl | (congr 1; simp; done) | (simp only [List.map_append]; rfl) | (rw [List.map_append]; rfl)) ?_
   refine la rfl rfl rfl rfl rfl ?_
   refine L_nil ?_
   refine T_reg hF rfl ?_
   refine lo rfl (pr_add (na_i64 (a := k) (b := 1) sd) rfl rfl rfl) rfl rfl ?_
   refine lm rfl rfl rfl rfl rfl ?_
   refine L_nil ?_
   refine T_slot 6 (.slice A11 ((catp (Q.take k)).length + ((pat Q k).n)) C12) (.slice A11 ((catp (Q.take (k + 1))).length) C12) rfl (by rw [hct (by assumption)]; congr 1; omega) ?_
   refine T_as 0 _ (.row (.slice A11 ((catp (Q.take (k + 1))).length) C12) 5 1 ((catp (Q.take (k + 1))).length) ((catp (Q.take (k + 1))).map b8)) rfl (by rw [catp_take (by omega), List.length_append]; congr 1 <;> simp <;> omega) ?_
   exact T_again (k + 1, A11, C12) (by first | trivial | ((try dsimp only); first | omega | (refine ⟨?_, ?_⟩ <;> omega) | (refine ⟨?_, ?_, ?_⟩ <;> omega) | (simp; done) | (simp; omega))) (by first | trivial | ((try dsimp only); first | omega | (refine ⟨?_, ?_⟩ <;> omega) | (refine ⟨?_, ?_, ?_⟩ <;> omega) | (simp; done) | (simp; omega))) (sc rfl (sc rfl (sc rfl (sc rfl sn)))) [0, 2, 3] ⟨by decide, rfl⟩
  ·
   have hc_8 := of_decide_eq_false hc_8
   refine T_exit rfl ?_
   obtain rfl : n = k := by omega
   refine Tsr hF rfl ?_
   refine lm rfl rfl rfl rfl rfl ?_
   refine la rfl rfl rfl rfl rfl ?_
   refine L_nil ?_
   refine T_ret ?_
   refine T_slot 2 (.slice A1 ((catp (Q.take n)).length) c1) (.slice A1 ((catp Q).length) c1) rfl (by rw [List.take_of_length_le (by omega)]) ?_
   refine T_as 0 _ (.row (.slice A1 ((catp Q).length) c1) 5 1 ((catp Q).length) ((catp Q).map b8)) rfl (by rw [List.take_of_length_le (by omega)]) ?_
   exact T_fin (A1, c1) (by first | trivial | omega | (simp; done)) (res1 rfl rfl) [0] ⟨by decide, rfl⟩ rfl
end Go.Proofs.YtlplpmkdebemnaaDoor
namespace Go.Proofs.YtlplpmkdebemnaaDoor
set_option linter.unusedVariables false
set_option linter.unusedSimpArgs false
set_option linter.unnecessarySimpa false
set_option maxRecDepth 100000
open Go.RowKit Bv Fw

theorem catp_nil : catp [] = [] := rfl
theorem catp_cons (p : Pt) (L : List Pt) : catp (p :: L) = p.xs ++ catp L := by simp [catp]

set_option maxHeartbeats 4000000 in
theorem sum_f (Q : List Pt) (A : Option Addr) (n : Nat) (c : Nat) (w : World) (hO : HOK [.rd A 1 n c (Q.map Pt.sl), .all Q] w) (hn : Q.length = n) (hs : (catp Q).length ≤ 1000000000) (hn2 : n ≤ 1000000000) : Calls Tryd.prog 62 [(.slice A n c)].toArray w (Ret (T := Unit) [] w (fun _ => True) (fun _ => (.agg ((shasum (catp Q)).map b8).toArray)) (fun _ => [])) := by
 have hkl : shaK.length = 64 := shaK_len
 have hpl : plen (catp Q).length ≤ 72 := plen_le _
 have hml := shamsg_len (catp Q)
 have hpbl := padb_len (catp Q).length
 have hsl := shasum_len (catp Q)
 have hHl := shaH_len
 have hstl := fun k => hst_len (shamsg (catp Q)) k
 have hsol := fun s k => shaout_len s k
 have hF : Wid Fence.wide := wid_wide
 refine enter_m (c := _) Tryd.func62 rfl [] _ [.rd A 1 n c (Q.map Pt.sl), .all Q] (by rw [Tryd.ntmps62]; rfl) (own_rds hO rfl) ?_
 rw [Tryd.ntmps62]
 refine T_re [(0, (.slice A n c))] (sc rfl sn) ?_
 refine T_he [0, 1] [.rd A 1 n c (Q.map Pt.sl), .all Q] ⟨by decide, rfl⟩ ?_
 refine Tsr hF rfl ?_
 refine L_op rfl (op_alloc (z := .agg ((List.replicate 32 0#8).map b8).toArray) (zs := ((List.replicate 32 0#8).map b8)) kr rfl rfl rfl rfl (fun g1 => ?_))
 refine L_nil ?_
 refine Tsr hF rfl ?_
 refine lm rfl rfl rfl rfl rfl ?_
 refine L_op rfl (op_cn (fun w hw => concat_f Q A n c w (hok_cons ((src_rd 1 rfl) w hw) (hok_cons (hw _ (List.mem_of_getElem? (i := 2) rfl)) (hok_nil w))) sd sd sd) (enters_of Tryd.func67 kr rfl) rfl rfl rfl rfl rfl (fun t2 q3 => ?_))
 obtain ⟨B4, d5⟩ := t2
 refine la rfl rfl rfl rfl rfl ?_
 refine L_nil ?_
 refine Tsr hF rfl ?_
 refine lm rfl rfl rfl rfl rfl ?_
 refine lm rfl rfl rfl rfl rfl ?_
 refine lo rfl (pr_len_sl Tryd.underlying29 rfl rfl) rfl rfl ?_
 refine L_op rfl (op_cn (fun w hw => pad_f ((catp Q).length) w (hok_nil w) sd) (enters_of Tryd.func68 kr rfl) rfl rfl rfl rfl rfl (fun t6 q7 => ?_))
 obtain ⟨B8, d9⟩ := t6
 refine L_op rfl (op_append (z := (b8 (0#8))) (size := 1) (bytes := 1) 1 rfl Tryd.underlying29 kr kr (by decide) (src_row 0 rfl) (all8_one _) sd sd rfl rfl rfl rfl rfl (fun A10 C11 => ?_))
 refine T_as 0 _ (.row (.slice A10 ((catp Q).length + (plen ((catp Q).length))) C11) 5 1 ((catp Q).length + (plen ((catp Q).length))) (((catp Q) ++ padb ((catp Q).length)).map b8)) rfl (by first | rfl | (congr 1; simp; done) | (simp only [List.map_append]; rfl) | (rw [List.map_append]; rfl)) ?_
 refine la rfl rfl rfl rfl rfl ?_
 refine L_nil ?_
 refine Tsr hF rfl ?_
 refine L_op rfl (op_cn (fun w hw => words_f  w (hok_nil w) ) (enters_of Tryd.func69 kr rfl) rfl rfl rfl rfl rfl (fun t12 q13 => ?_))
 refine L_op rfl (op_alloc (z := .agg ((List.replicate 64 0#32).map b32).toArray) (zs := ((List.replicate 64 0#32).map b32)) kr rfl rfl rfl rfl (fun g14 => ?_))
 refine L_op rfl (op_sto (n := 64) (vs := (shaK.map b32)) 0 rfl rfl kr (all32_one _) kr sd rfl rfl rfl rfl ?_)
 refine L_nil ?_
 refine Tsr hF rfl ?_
 refine lo rfl (pr_build (qs := [(0, (b32 (1779033703#32))), (1, (b32 (3144134277#32))), (2, (b32 (1013904242#32))), (3, (b32 (2773480762#32))), (4, (b32 (1359893119#32))), (5, (b32 (2600822924#32))), (6, (b32 (528734635#32))), (7, (b32 (1541459225#32)))]) (v := .agg [(b32 (1779033703#32)), (b32 (3144134277#32)), (b32 (1013904242#32)), (b32 (2773480762#32)), (b32 (1359893119#32)), (b32 (2600822924#32)), (b32 (528734635#32)), (b32 (1541459225#32))].toArray) (fun _ => by kernel_rfl) rfl rfl) rfl rfl ?_
 refine L_op rfl (op_alloc (z := .agg [(b32 (0#32)), (b32 (0#32)), (b32 (0#32)), (b32 (0#32)), (b32 (0#32)), (b32 (0#32)), (b32 (0#32)), (b32 (0#32))].toArray) (zs := [(b32 (0#32)), (b32 (0#32)), (b32 (0#32)), (b32 (0#32)), (b32 (0#32)), (b32 (0#32)), (b32 (0#32)), (b32 (0#32))]) kr rfl rfl rfl rfl (fun g15 => ?_))
 refine L_op rfl (op_sto (n := 8) (vs := [(b32 (1779033703#32)), (b32 (3144134277#32)), (b32 (1013904242#32)), (b32 (2773480762#32)), (b32 (1359893119#32)), (b32 (2600822924#32)), (b32 (528734635#32)), (b32 (1541459225#32))]) 0 rfl rfl kr (by simp [Value.oneCell']) kr kr rfl rfl rfl rfl ?_)
 refine L_nil ?_
 refine T_seq ?_
 refine Tsr hF rfl ?_
 refine lm rfl rfl rfl rfl rfl ?_
 refine L_op rfl (op_cn (fun w hw => chunk_f A10 ((catp Q).length + (plen ((catp Q).length))) C11 64 w (hok_nil w) sd) (enters_of Tryd.func70 kr rfl) rfl rfl rfl rfl rfl (fun t16 q17 => ?_))
 obtain ⟨g1_18, g2_19⟩ := t16
 refine L_nil ?_
 refine T_block ?_
 refine T_tord 0 rfl ?_
 refine T_tord 1 rfl ?_
 refine T_old 4 rfl ?_
 refine T_tord 0 rfl ?_
 refine T_as 3 _ (.blk g15 83 ((hst (shamsg (catp Q)) 0).map b32)) rfl (by rw [hst_zero]; unfold shaH; rfl) ?_
 refine T_range (Θ := Option Addr) (T := Unit) (Tx := Unit) (cap := [(.pointer (some ⟨g1_18, 0, none⟩)), (.pointer (some ⟨g2_19, 0, none⟩))]) (ps := [21]) (chunk_seq ((catp Q) ++ padb ((catp Q).length)) 64 A10 ((catp Q).length + (plen ((catp Q).length))) C11 g1_18 g2_19 sd sd sd sd) rfl (enters_of Tryd.func75 kr rfl) (fun k _ => True) (fun k _ => [.rd A10 1 ((catp Q).length + (plen ((catp Q).length))) C11 (((catp Q) ++ padb ((catp Q).length)).map b8), .rd (some ⟨g2_19, 0, none⟩) 1 1 1 [(.int .i64 ((64 : Nat) : Int))], .rd (some ⟨g1_18, 0, none⟩) 1 1 1 [(.slice A10 ((catp Q).length + (plen ((catp Q).length))) C11)], .blk g15 83 ((hst (shamsg (catp Q)) k).map b32), .blk g14 81 (shaK.map b32), .row (.slice B8 (plen ((catp Q).length)) d9) 5 1 (plen ((catp Q).length)) ((padb ((catp Q).length)).map b8), .blk g1 34 ((List.replicate 32 0#8).map b8), .rd A 1 n c (Q.map Pt.sl), .all Q]) (fun _ => False) (fun _ => []) 0 () (by first | trivial | ((try dsimp only); first | omega | (refine ⟨?_, ?_⟩ <;> omega) | (refine ⟨?_, ?_, ?_⟩ <;> omega) | (simp; done) | (simp; omega))) [1, 2, 3, 0, 4, 5, 6, 7, 8] ⟨by decide, rfl⟩ [3, 2, 1] rfl rfl (fun _ _ => rfl) (fun _ => rfl) (fun _ _ => rfl) (fun _ _ => rfl) rfl (fun _ => trivial) ?_ ?_ ?_
 ·
  intro C2 w2 lo2 rs2 l D m k t th rc hrec hk hp
  obtain ⟨B, rfl⟩ : ∃ x, x = th := ⟨_, rfl⟩
  have hp : True := hp
  have hk : k < (((catp Q).length + (plen ((catp Q).length))) + 64 - 1) / 64 := hk
  obtain ⟨hmin, hb64⟩ := shablk (catp Q) k hk
  have hk8 := hstl k
  have hk9 := (mixb_len (hst (shamsg (catp Q)) k) (List.take 64 (List.drop (64 * k) (shamsg (catp Q))))).trans hk8
  have hF : Wid (Fence.wide.inRound l) := wid_round l
  refine T_re [(4, (.pointer (some ⟨g14, 0, none⟩))), (5, (.pointer (some ⟨g15, 0, none⟩))), (21, (.slice B (min 64 (((catp Q).length + (plen ((catp Q).length))) - 64 * k)) (min 64 (((catp Q).length + (plen ((catp Q).length))) - 64 * k))))] (sc rfl (sc rfl (sc rfl sn))) ?_
  refine T_he [0, 1, 2, 3, 4, 5, 6, 7, 8, 9, 10, 11] [.rd B 1 (min 64 (((catp Q).length + (plen ((catp Q).length))) - 64 * k)) (min 64 (((catp Q).length + (plen ((catp Q).length))) - 64 * k)) ((List.take (min 64 (((catp Q).length + (plen ((catp Q).length))) - 64 * k)) (List.drop (64 * k) ((catp Q) ++ padb ((catp Q).length)))).map b8), .obj l (.loop rc), .obj D (.deferred (some [])), .rd A10 1 ((catp Q).length + (plen ((catp Q).length))) C11 (((catp Q) ++ padb ((catp Q).length)).map b8), .rd (some ⟨g2_19, 0, none⟩) 1 1 1 [(.int .i64 ((64 : Nat) : Int))], .rd (some ⟨g1_18, 0, none⟩) 1 1 1 [(.slice A10 ((catp Q).length + (plen ((catp Q).length))) C11)], .blk g15 83 ((hst (shamsg (catp Q)) k).map b32), .blk g14 81 (shaK.map b32), .row (.slice B8 (plen ((catp Q).length)) d9) 5 1 (plen ((catp Q).length)) ((padb ((catp Q).length)).map b8), .blk g1 34 ((List.replicate 32 0#8).map b8), .rd A 1 n c (Q.map Pt.sl), .all Q] ⟨by decide, rfl⟩ ?_
  refine T_slot 21 _ (.slice B 64 64) rfl (by rw [hmin]) ?_
  refine T_as 0 _ (.rd B 1 64 64 ((List.take 64 (List.drop (64 * k) (shamsg (catp Q)))).map b8)) rfl (by rw [hmin, shamsg_def]) ?_
  refine T_reg hF rfl ?_
  refine la rfl rfl rfl rfl rfl ?_
  refine L_nil ?_
  refine T_begun 1 rfl hrec ?_
  refine T_block ?_
  refine T_reg hF rfl ?_
  refine lq rfl (ld_agg (ds := ((hst (shamsg (catp Q)) k).map b32)) 6 rfl agg_all Tryd.underlying83 rfl (fwz (n := 8) kr sd) rfl rfl) rfl rfl ?_
  refine lm rfl rfl rfl rfl rfl ?_
  refine L_op rfl (op_cn (fun w hw => mixed_f (hst (shamsg (catp Q)) k) g14 (List.take 64 (List.drop (64 * k) (shamsg (catp Q)))) B 64 w (hok_cons ((src_full (z := 1) 7 rfl sd sd sd) w hw) (hok_cons ((src_rd 1 rfl) w hw) (hok_nil w))) sd sd) (enters_of Tryd.func71 kr rfl) rfl rfl rfl rfl rfl (fun t20 q21 => ?_))
  refine L_op rfl (op_sto (n := 8) (vs := ((mixb (hst (shamsg (catp Q)) k) (List.take 64 (List.drop (64 * k) (shamsg (catp Q))))).map b32)) 6 rfl rfl kr (all32_one _) sd sd rfl rfl rfl rfl ?_)
  refine L_nil ?_
  refine T_as 0 _ (.blk g15 83 ((hst (shamsg (catp Q)) (k + 1)).map b32)) rfl (by rw [hst_succ]) ?_
  exact T_on () (by first | trivial | ((try dsimp only); first | omega | (refine ⟨?_, ?_⟩ <;> omega) | (refine ⟨?_, ?_, ?_⟩ <;> omega) | (simp; done) | (simp; omega))) [1, 3, 4, 5, 6, 0, 7, 8, 9, 10, 11] ⟨by decide, rfl⟩
 ·
  intro D t hp
  have hp : True := hp
  have hk8 := hstl (((catp Q).length + plen (catp Q).length + 64 - 1) / 64)
  refine T_re [(2, (.pointer (some ⟨g1, 0, none⟩))), (5, (.pointer (some ⟨g15, 0, none⟩)))] (sc rfl (sc rfl sn)) ?_
  refine T_he [0, 1, 2, 3, 4, 5, 6, 7, 8, 9] [.obj D (.deferred (some [])), .rd A10 1 ((catp Q).length + (plen ((catp Q).length))) C11 (((catp Q) ++ padb ((catp Q).length)).map b8), .rd (some ⟨g2_19, 0, none⟩) 1 1 1 [(.int .i64 ((64 : Nat) : Int))], .rd (some ⟨g1_18, 0, none⟩) 1 1 1 [(.slice A10 ((catp Q).length + (plen ((catp Q).length))) C11)], .blk g15 83 ((hst (shamsg (catp Q)) ((((catp Q).length + (plen ((catp Q).length))) + 64 - 1) / 64)).map b32), .blk g14 81 (shaK.map b32), .row (.slice B8 (plen ((catp Q).length)) d9) 5 1 (plen ((catp Q).length)) ((padb ((catp Q).length)).map b8), .blk g1 34 ((List.replicate 32 0#8).map b8), .rd A 1 n c (Q.map Pt.sl), .all Q] ⟨by decide, rfl⟩ ?_
  refine Tsr hF rfl ?_
  refine L_op rfl (op_make (z := (b8 (0#8))) (n := 0) (c := 32) Tryd.underlying29 (bytes := 1) kr rfl sd sd sd rfl rfl rfl rfl rfl (fun g22 => ?_))
  refine T_as 0 _ (.blk g22 5 ((List.replicate 32 0#8).map b8)) rfl (by rw [List.map_replicate]) ?_
  refine la rfl rfl rfl rfl rfl ?_
  refine L_nil ?_
  refine T_seq ?_
  refine Tsr hF rfl ?_
  refine lq rfl (ld_agg (ds := ((hst (shamsg (catp Q)) ((((catp Q).length + (plen ((catp Q).length))) + 64 - 1) / 64)).map b32)) 5 rfl agg_all Tryd.underlying83 rfl (fwz (n := 8) kr sd) rfl rfl) rfl rfl ?_
  refine lm rfl rfl rfl rfl rfl ?_
  refine L_nil ?_
  refine T_block ?_
  refine T_slot 7 (.slice (some ⟨g22, 0, none⟩) 0 32) (.slice (some ⟨g22, 0, none⟩) (4 * 0) 32) rfl (by first | rfl | (congr 2; omega) | (simp; omega)) ?_
  refine T_rowb 0 (zs := ((shaout (hst (shamsg (catp Q)) (((catp Q).length + plen (catp Q).length + 64 - 1) / 64)) 0).map b8)) 1 (4 * 0) 32 rfl sd sd sd (by rw [shaout_zero]; rfl) ?_
  refine T_loop (T := Nat × Option Addr × Nat) (fun ⟨k, A1, c1⟩ => k ≤ 8) (fun ⟨k, A1, c1⟩ => [(2, (.pointer (some ⟨g1, 0, none⟩))), (7, (.slice A1 (4 * k) c1)), (26, (.agg ((hst (shamsg (catp Q)) ((((catp Q).length + (plen ((catp Q).length))) + 64 - 1) / 64)).map b32).toArray)), (27, (.int .i64 ((k : Nat) : Int)))]) (fun ⟨k, A1, c1⟩ => [.row (.slice A1 (4 * k) c1) 5 1 (4 * k) ((shaout (hst (shamsg (catp Q)) (((catp Q).length + plen (catp Q).length + 64 - 1) / 64)) k).map b8), .obj D (.deferred (some [])), .rd A10 1 ((catp Q).length + (plen ((catp Q).length))) C11 (((catp Q) ++ padb ((catp Q).length)).map b8), .rd (some ⟨g2_19, 0, none⟩) 1 1 1 [(.int .i64 ((64 : Nat) : Int))], .rd (some ⟨g1_18, 0, none⟩) 1 1 1 [(.slice A10 ((catp Q).length + (plen ((catp Q).length))) C11)], .blk g15 83 ((hst (shamsg (catp Q)) ((((catp Q).length + (plen ((catp Q).length))) + 64 - 1) / 64)).map b32), .blk g14 81 (shaK.map b32), .row (.slice B8 (plen ((catp Q).length)) d9) 5 1 (plen ((catp Q).length)) ((padb ((catp Q).length)).map b8), .blk g1 34 ((List.replicate 32 0#8).map b8), .rd A 1 n c (Q.map Pt.sl), .all Q]) (fun ⟨k, A1, c1⟩ => 8 - k) (0, some ⟨g22, 0, none⟩, 32) (by first | trivial | ((try dsimp only); first | omega | (refine ⟨?_, ?_⟩ <;> omega) | (refine ⟨?_, ?_, ?_⟩ <;> omega) | (simp; done) | (simp; omega))) (sc rfl (sc rfl (sc rfl (sc rfl sn)))) [0, 1, 2, 3, 4, 5, 6, 7, 8, 9, 10] ⟨by decide, rfl⟩ ?_
  rintro ⟨k, A1, c1⟩ hp
  have hp : k ≤ 8 := hp
  have hkl2 := hsol (hst (shamsg (catp Q)) (((catp Q).length + plen (catp Q).length + 64 - 1) / 64)) k
  refine T_re [(2, (.pointer (some ⟨g1, 0, none⟩))), (7, (.slice A1 (4 * k) c1)), (26, (.agg ((hst (shamsg (catp Q)) ((((catp Q).length + (plen ((catp Q).length))) + 64 - 1) / 64)).map b32).toArray)), (27, (.int .i64 ((k : Nat) : Int)))] (sc rfl (sc rfl (sc rfl (sc rfl sn)))) ?_
  refine T_he [0, 1, 2, 3, 4, 5, 6, 7, 8, 9, 10] [.row (.slice A1 (4 * k) c1) 5 1 (4 * k) ((shaout (hst (shamsg (catp Q)) (((catp Q).length + plen (catp Q).length + 64 - 1) / 64)) k).map b8), .obj D (.deferred (some [])), .rd A10 1 ((catp Q).length + (plen ((catp Q).length))) C11 (((catp Q) ++ padb ((catp Q).length)).map b8), .rd (some ⟨g2_19, 0, none⟩) 1 1 1 [(.int .i64 ((64 : Nat) : Int))], .rd (some ⟨g1_18, 0, none⟩) 1 1 1 [(.slice A10 ((catp Q).length + (plen ((catp Q).length))) C11)], .blk g15 83 ((hst (shamsg (catp Q)) ((((catp Q).length + (plen ((catp Q).length))) + 64 - 1) / 64)).map b32), .blk g14 81 (shaK.map b32), .row (.slice B8 (plen ((catp Q).length)) d9) 5 1 (plen ((catp Q).length)) ((padb ((catp Q).length)).map b8), .blk g1 34 ((List.replicate 32 0#8).map b8), .rd A 1 n c (Q.map Pt.sl), .all Q] ⟨by decide, rfl⟩ ?_
  refine Tsr hF rfl ?_
  refine lo rfl (pr_cmp (bo := .lss) (nc_lt (a := k) (b := 8)) rfl rfl rfl rfl) rfl rfl ?_
  refine L_nil ?_
  refine T_seq ?_
  refine T_cond (decide (k < 8)) rfl (fun hc_23 => ?_) (fun hc_23 => ?_)
  ·
   have hc_23 := of_decide_eq_true hc_23
   refine T_skip ?_
   refine T_seq ?_
   refine T_block ?_
   refine Tsr hF rfl ?_
   refine lo rfl (pr_ix (cs := ((hst (shamsg (catp Q)) ((((catp Q).length + (plen ((catp Q).length))) + 64 - 1) / 64)).map b32)) (j := k) sd (get32 sd) Tryd.underlying83 Tryd.underlying25 rfl kr rfl rfl rfl) rfl rfl ?_
   refine la rfl rfl rfl rfl rfl ?_
   refine L_nil ?_
   refine T_reg hF rfl ?_
   refine lm rfl rfl rfl rfl rfl ?_
   refine lm rfl rfl rfl rfl rfl ?_
   refine lo rfl (pr_cv (cv32_64 _) Tryd.underlying25 Tryd.underlying22 rfl rfl) rfl rfl ?_
   refine L_op rfl (op_c1 0 rfl (fun w hw => putHigh_f (shaout (hst (shamsg (catp Q)) (((catp Q).length + plen (catp Q).length + 64 - 1) / 64)) k) ((ath (hst (shamsg (catp Q)) ((((catp Q).length + (plen ((catp Q).length))) + 64 - 1) / 64)) k).setWidth 64) 4 A1 (4 * k) c1 w (hw _ (List.mem_of_getElem? (i := 0) rfl)) sd sd) (enters_of Tryd.func72 kr rfl) rfl rfl rfl rfl rfl (fun t24 q25 => ?_))
   obtain ⟨B26, d27⟩ := t24
   refine la rfl rfl rfl rfl rfl ?_
   refine L_nil ?_
   refine T_reg hF rfl ?_
   refine lo rfl (pr_add (na_i64 (a := k) (b := 1) sd) rfl rfl rfl) rfl rfl ?_
   refine lm rfl rfl rfl rfl rfl ?_
   refine L_nil ?_
   refine T_slot 7 (.slice B26 ((4 * k) + 4) d27) (.slice B26 (4 * (k + 1)) d27) rfl (by first | rfl | (congr 2; omega) | (simp; omega)) ?_
   refine T_as 0 _ (.row (.slice B26 (4 * (k + 1)) d27) 5 1 (4 * (k + 1)) ((shaout (hst (shamsg (catp Q)) (((catp Q).length + plen (catp Q).length + 64 - 1) / 64)) (k + 1)).map b8)) rfl (by rw [shaout_succ]; congr 1) ?_
   exact T_again (k + 1, B26, d27) (by first | trivial | ((try dsimp only); first | omega | (refine ⟨?_, ?_⟩ <;> omega) | (refine ⟨?_, ?_, ?_⟩ <;> omega) | (simp; done) | (simp; omega))) (by first | trivial | ((try dsimp only); first | omega | (refine ⟨?_, ?_⟩ <;> omega) | (refine ⟨?_, ?_, ?_⟩ <;> omega) | (simp; done) | (simp; omega))) (sc rfl (sc rfl (sc rfl (sc rfl sn)))) [0, 1, 2, 3, 4, 5, 6, 7, 8, 9, 10] ⟨by decide, rfl⟩
  ·
   have hc_23 := of_decide_eq_false hc_23
   refine T_exit rfl ?_
   obtain rfl : 8 = k := by omega
   have hk32 := hsol (hst (shamsg (catp Q)) (((catp Q).length + plen (catp Q).length + 64 - 1) / 64)) 8
   refine Tsr hF rfl ?_
   refine lm rfl rfl rfl rfl rfl ?_
   refine lo rfl (pr_s2a sd Tryd.underlying34 rfl rfl) rfl rfl ?_
   refine lq rfl (ld_aggs (ds := ((shaout (hst (shamsg (catp Q)) (((catp Q).length + plen (catp Q).length + 64 - 1) / 64)) 8).map b8)) (src_row 0 rfl) (List.take_length) (by have h1 : (((shaout (hst (shamsg (catp Q)) (((catp Q).length + plen (catp Q).length + 64 - 1) / 64)) 8).map b8)).length = 32 := sd; omega) Tryd.underlying34 rfl (fwz (n := 32) kr sd) rfl rfl) rfl rfl ?_
   refine L_op rfl (op_sto (n := 32) (vs := ((shaout (hst (shamsg (catp Q)) (((catp Q).length + plen (catp Q).length + 64 - 1) / 64)) 8).map b8)) 8 rfl rfl kr (all8_one _) kr sd rfl rfl rfl rfl ?_)
   refine L_nil ?_
   refine T_ret ?_
   refine T_as 0 _ (.blk g1 34 ((shasum (catp Q)).map b8)) rfl (by rw [shasum_def]) ?_
   exact T_finM 2 rfl () (by first | trivial | omega | (simp; done)) (resb 0 rfl rfl rfl Tryd.underlying34 rfl (fwz (n := 32) kr sd)) [] ⟨by decide, rfl⟩ rfl
 ·
  exact fun D t hq => hq.elim
end Go.Proofs.YtlplpmkdebemnaaDoor
namespace Go.Proofs.YtlplpmkdebemnaaDoor
set_option linter.unusedVariables false
set_option linter.unusedSimpArgs false
set_option linter.unnecessarySimpa false
set_option maxRecDepth 100000
open Go.RowKit Bv Fw

theorem own_step (xs : List (BitVec 8)) (f : BitVec 8) (n k : Nat) (hx : xs.length = n) (hk : k < 3) : (xs ++ (List.replicate k f ++ List.replicate (3 - k) 0#8)).set (n + k) f = xs ++ (List.replicate (k + 1) f ++ List.replicate (3 - (k + 1)) 0#8) := by
  subst hx
  rcases (by omega : k = 0 ∨ k = 1 ∨ k = 2) with rfl | rfl | rfl <;> simp [List.set_append_right, List.replicate]
theorem own_at (xs : List (BitVec 8)) (f : BitVec 8) (n k : Nat) (hx : xs.length = n) (hk : k < 3) : ath (List.take (n + 3) (xs ++ [f, f, f])) (n + k) = f := by
  subst hx
  unfold ath
  rcases (by omega : k = 0 ∨ k = 1 ∨ k = 2) with rfl | rfl | rfl <;> simp [List.getD_eq_getElem?_getD, List.getElem?_take, List.getElem?_append_right]

set_option maxHeartbeats 4000000 in
theorem bytes_f (xs : List (BitVec 8)) (ys : List (BitVec 8)) (A : Option Addr) (n : Nat) (c : Nat) (B : Option Addr) (m : Nat) (d : Nat) (w : World) (hO : HOK [.rd A 1 n c (xs.map b8), .rd B 1 m d (ys.map b8)] w)  : Calls Tryd.prog 9 [(.slice A n c), (.slice B m d)].toArray w (Ret (T := Unit) [] w (fun _ => True) (fun _ => (.bool (decide (xs = ys)))) (fun _ => [])) := by
 have hF : Wid Fence.wide := wid_wide
 refine enter (c := _) Tryd.func9 rfl [] _ [.rd A 1 n c (xs.map b8), .rd B 1 m d (ys.map b8)] (by rw [Tryd.ntmps9]; rfl) (own_rds hO rfl) ?_
 rw [Tryd.ntmps9]
 refine T_re [(0, (.slice A n c)), (1, (.slice B m d))] (sc rfl (sc rfl sn)) ?_
 refine T_he [0, 1] [.rd A 1 n c (xs.map b8), .rd B 1 m d (ys.map b8)] ⟨by decide, rfl⟩ ?_
 refine Tsr hF rfl ?_
 refine la rfl rfl rfl rfl rfl ?_
 refine L_nil ?_
 refine Tsr hF rfl ?_
 refine lm rfl rfl rfl rfl rfl ?_
 refine lq rfl (ld_str (xs := xs) (src_rd 0 rfl) Tryd.underlying29 Tryd.underlying5 Tryd.underlying9 rfl rfl) rfl rfl ?_
 refine lm rfl rfl rfl rfl rfl ?_
 refine lq rfl (ld_str (xs := ys) (src_rd 1 rfl) Tryd.underlying29 Tryd.underlying5 Tryd.underlying9 rfl rfl) rfl rfl ?_
 refine lo rfl (pr_streq rfl rfl rfl) rfl rfl ?_
 refine la rfl rfl rfl rfl rfl ?_
 refine L_nil ?_
 refine T_ret ?_
 exact T_fin () (by first | trivial | omega | (simp; done)) (res1 rfl rfl) [] ⟨by decide, rfl⟩ rfl
end Go.Proofs.YtlplpmkdebemnaaDoor
namespace Go.Proofs.YtlplpmkdebemnaaDoor
set_option linter.unusedVariables false
set_option linter.unusedSimpArgs false
open Bv
theorem high4_32 (ys : List (BitVec 8)) : (high ys 4).setWidth 32 = ((ath ys 0).setWidth 32 <<< 24 ||| (ath ys 1).setWidth 32 <<< 16) ||| (ath ys 2).setWidth 32 <<< 8 ||| (ath ys 3).setWidth 32 := by
  have e : high ys 4 = ((((0#64 <<< 8 ||| (ath ys 0).setWidth 64) <<< 8 ||| (ath ys 1).setWidth 64) <<< 8 ||| (ath ys 2).setWidth 64) <<< 8 ||| (ath ys 3).setWidth 64) := rfl
  rw [e]
  generalize ath ys 0 = a
  generalize ath ys 1 = b
  generalize ath ys 2 = c
  generalize ath ys 3 = d
  ext i hi
  simp only [BitVec.getElem_setWidth, BitVec.getElem_or, BitVec.getElem_shiftLeft, BitVec.getLsbD_or, BitVec.getLsbD_shiftLeft, BitVec.getLsbD_setWidth]
  rcases (by omega : i = 0 ∨ i = 1 ∨ i = 2 ∨ i = 3 ∨ i = 4 ∨ i = 5 ∨ i = 6 ∨ i = 7 ∨ i = 8 ∨ i = 9 ∨ i = 10 ∨ i = 11 ∨ i = 12 ∨ i = 13 ∨ i = 14 ∨ i = 15 ∨ i = 16 ∨ i = 17 ∨ i = 18 ∨ i = 19 ∨ i = 20 ∨ i = 21 ∨ i = 22 ∨ i = 23 ∨ i = 24 ∨ i = 25 ∨ i = 26 ∨ i = 27 ∨ i = 28 ∨ i = 29 ∨ i = 30 ∨ i = 31) with rfl | rfl | rfl | rfl | rfl | rfl | rfl | rfl | rfl | rfl | rfl | rfl | rfl | rfl | rfl | rfl | rfl | rfl | rfl | rfl | rfl | rfl | rfl | rfl | rfl | rfl | rfl | rfl | rfl | rfl | rfl | rfl <;> simp
theorem rsch_lo (m : List (BitVec 8)) (k j : Nat) (h : j < 16) : (fil (schw (List.take 64 (List.drop (64 * k) m)) j) 64).set j (((ath m (64 * k + 4 * j)).setWidth 32 <<< 24 ||| (ath m (64 * k + 4 * j + 1)).setWidth 32 <<< 16) ||| (ath m (64 * k + 4 * j + 2)).setWidth 32 <<< 8 ||| (ath m (64 * k + 4 * j + 3)).setWidth 32) = fil (schw (List.take 64 (List.drop (64 * k) m)) (j + 1)) 64 := by
  rw [← schw_lo _ j h, high4_32]
  simp only [ath_drop]
  rw [ath_take _ _ _ (by omega), ath_take _ _ _ (by omega), ath_take _ _ _ (by omega), ath_take _ _ _ (by omega)]
  simp only [ath_drop, Nat.add_assoc, Nat.add_zero]
theorem shaout_at (s : List (BitVec 32)) (k : Nat) : ∀ j, j < 4 * k → ath (shaout s k) j = ((ath s (j / 4)) >>> (24 - 8 * (j % 4))).setWidth 8 := by
  induction k with
  | zero => intro j hj; omega
  | succ k ih =>
    intro j hj
    rw [shaout_succ]
    by_cases h : j < 4 * k
    · rw [ath_app_l _ _ _ (by rw [shaout_len]; exact h), ih j h]
    · rw [ath_app_r _ _ _ (by rw [shaout_len]; omega), shaout_len]
      obtain ⟨i, hi, rfl⟩ : ∃ i, i < 4 ∧ j = 4 * k + i := ⟨j - 4 * k, by omega, by omega⟩
      rw [show (4 * k + i) / 4 = k by omega, show (4 * k + i) % 4 = i by omega, show 4 * k + i - 4 * k = i by omega]
      have hb : ath (highb ((ath s k).setWidth 64) 4 4) i = (((ath s k).setWidth 64) >>> (8 * (3 - i))).setWidth 8 := by
        rcases (by omega : i = 0 ∨ i = 1 ∨ i = 2 ∨ i = 3) with rfl | rfl | rfl | rfl <;> rfl
      rw [hb, show 8 * (3 - i) = 24 - 8 * i by omega]
      generalize ath s k = x
      ext q hq
      simp [BitVec.getLsbD_setWidth]
      omega
/-- A list's first bytes, and zeros behind them. -/
def pre0 (xs : List (BitVec 8)) (n j : Nat) : List (BitVec 8) := xs.take j ++ List.replicate (n - j) 0#8
theorem pre0_zero (xs : List (BitVec 8)) (n : Nat) : List.replicate n 0#8 = pre0 xs n 0 := by simp [pre0]
theorem pre0_all (xs : List (BitVec 8)) (n : Nat) (h : xs.length = n) : pre0 xs n n = xs := by simp [pre0, ← h]
theorem pre0_len (xs : List (BitVec 8)) (n j : Nat) (h : xs.length = n) (hj : j ≤ n) : (pre0 xs n j).length = n := by simp [pre0]; omega
theorem pre0_set (xs : List (BitVec 8)) (n j : Nat) (h : xs.length = n) (hj : j < n) (v : BitVec 8) (hv : v = ath xs j) : (pre0 xs n j).set j v = pre0 xs n (j + 1) := by
  unfold pre0
  have hl : (xs.take j).length = j := by rw [List.length_take]; omega
  have ht : xs.take (j + 1) = xs.take j ++ [ath xs j] := by
    rw [List.take_add_one, List.getElem?_eq_getElem (by omega), ath_get xs j (by omega)]; rfl
  rw [List.set_append_right _ _ (by omega), hl, Nat.sub_self, show n - j = (n - (j + 1)) + 1 by omega, List.replicate_succ, List.set_cons_zero, hv, ht]
  simp
theorem sumout_set (s : List (BitVec 32)) (o : List (BitVec 8)) (ho : shaout s 8 = o) (hl : o.length = 32) (j : Nat) (hj : j < 32) : (pre0 o 32 j).set j (((ath s (j / 4)) >>> (24 - 8 * (j % 4))).setWidth 8) = pre0 o 32 (j + 1) := by
  refine pre0_set _ _ _ hl hj _ ?_
  subst ho
  exact (shaout_at s 8 j (by omega)).symm
theorem rnd_ref (s ws : List (BitVec 32)) (k : Nat) (a : List (BitVec 32)) (ha : rounds s ws k = a) : rounds s ws (k + 1) = rnd a (ath shaK k) (ath ws k) := by rw [rounds_succ, ha]
end Go.Proofs.YtlplpmkdebemnaaDoor
