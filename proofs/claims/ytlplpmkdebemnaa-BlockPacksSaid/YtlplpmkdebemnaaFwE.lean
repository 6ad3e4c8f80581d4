/- Operations that change the memory, and calls, by facts. No conditions. -/
import Derived.Test.YtlplpmkdebemnaaFwO
import Derived.Laws.AppendOwn
import Derived.Laws.MakeOwn
import Derived.Laws.CopyRow
namespace Go.Proofs.Ytlplpmkdebemnaa.Fw
set_option linter.unusedVariables false
set_option linter.unusedSimpArgs false
open Go.RowKit Bv
section
variable {P : Program} {X : Cx} {s : List (Nat × Value)} {h : List HA} {a : Act} {w : World} {o : Oper} {K K0 : Jd} {v : Value}
theorem op_val {w' : World} {u : Value} (hr : (execOp a.eval o).run P w = .ok (.value u) w') (hk : K (a.put o.dst u) w') : Op P o K K0 a w := by
  unfold Op Oper.wp; rw [hr]; exact hk
theorem op_skp {w' : World} (hr : (execOp a.eval o).run P w = .ok .skip w') (hd : o.dst = none) (hk : K a w') : Op P o K K0 a w := by
  unfold Op Oper.wp; rw [hr, Oper.upon_skip, hd]; exact hk
theorem put_sz {d : Nat} (st : St X s h a w) (u : Value) : (a.put (some d) u).tmps.size = X.N := by simp [Act.put, st.sz]
/-- A change of the memory, and a value for a slot. -/
theorem St.swapv (st : St X s h a w) {w' : World} (out keep hs : List HA) (hp : h.Perm (out ++ keep)) {d : Nat} (hN : Nat.blt d X.N = true) (u : Value)
    (hk : Keep (out.flatMap HA.ids) w w') (hok : ∀ x ∈ hs, x.ok w') (hfr : ∀ x ∈ hs, ∀ k ∈ x.frs, k ∈ out.flatMap HA.ids ∨ w.heap.size ≤ k) (hnd : (hs.flatMap HA.ids).Nodup) (hrd : ∀ x ∈ hs, ∀ r ∈ x.rids, r ∈ x.frs ∧ ∀ y ∈ hs, r ∉ y.ids) (hos : ∀ x ∈ hs, x.os = [] ∧ x.bs = none := by intro x hx; rw [List.mem_singleton] at hx; subst hx; exact ⟨rfl, rfl⟩) : St X ((d, u) :: s) (hs ++ keep) (a.put (some d) u) w' :=
  have hp1 := st.put (Nat.le_of_ble_eq_true hN) u
  hp1.swap out keep hs hp hp1.sz hp1.df hp1.sl hk hok hfr hnd hrd hos
theorem keep_alloc (w : World) (ob : Obj) : Keep [] w (w.alloc ob) := ⟨⟨rfl, rfl, rfl, by simp⟩, fun k hk _ => Below.heap_alloc w ob k hk⟩
theorem St.newblk (st : St X s h a w) {d : Nat} (hN : Nat.blt d X.N = true) (e : TypeId) (cs : List Value) (u : Value) : St X ((d, u) :: s) (.blk w.heap.size e cs :: h) (a.put (some d) u) (w.alloc (.cells cs.toArray e (0, 0))) := by
  refine st.swapv [] h [.blk w.heap.size e cs] (List.Perm.refl _) hN u (keep_alloc w _) ?_ ?_ ?_ ?_
  · intro x hx; rw [List.mem_singleton] at hx; subst hx; exact heap_alloc_new w _
  · intro x hx k hk; rw [List.mem_singleton] at hx; subst hx; simp [HA.frs] at hk; subst hk; exact .inr (Nat.le_refl _)
  · simp [HA.ids]
  · intro x hx r hr; rw [List.mem_singleton] at hx; subst hx; cases hr
theorem op_alloc {d : Nat} {t : TypeId} {z : Value} {zs : List Value} (hz : (P.info? t).bind (·.zero) = some z) (hzs : z.cells.toList = zs) (ho : o.op = .alloc t) (hd : o.dst = some d) (hN : Nat.blt d X.N = true)
    (hh : ∀ g, Tr X ((d, .pointer (some ⟨g, 0, none⟩)) :: s) (.blk g t zs :: h) K) : Tr X s h (Op P o K K0) := fun a w st => by
  obtain ⟨i, hi, hz'⟩ := Option.bind_eq_some_iff.1 hz
  have hr : (execOp a.eval o).run P w = .ok (.value (.pointer (some ⟨w.heap.size, 0, none⟩))) (w.alloc (.cells zs.toArray t (0, 0))) := by
    subst hzs
    unfold execOp; rw [ho]
    simp [Instr.alloc, zeroValue, typeInfo, hi, hz', newVar, newRow]
  exact op_val hr (by rw [hd]; exact hh _ _ _ (st.newblk hN t zs _))
theorem op_box {d : Nat} {t : TypeId} {x : Operand} {zs : List Value} (hzs : v.cells.toList = zs) (ho : o.op = .box t x) (hx : ev s x = some v) (hd : o.dst = some d) (hN : Nat.blt d X.N = true)
    (hh : ∀ g, Tr X ((d, .pointer (some ⟨g, 0, none⟩)) :: s) (.blk g t zs :: h) K) : Tr X s h (Op P o K K0) := fun a w st => by
  have hr : (execOp a.eval o).run P w = .ok (.value (.pointer (some ⟨w.heap.size, 0, none⟩))) (w.alloc (.cells zs.toArray t (0, 0))) := by
    subst hzs
    unfold execOp; rw [ho]
    simp [Instr.box, newVar, newRow, st.ag x v hx]
  exact op_val hr (by rw [hd]; exact hh _ _ _ (st.newblk hN t zs _))
theorem op_bslice {d : Nat} {t e : TypeId} {len : Nat} {ps : List (Nat × Operand)} {qs : List (Nat × Value)} {zs : List Value} (hr : ∀ w, (Instr.buildSlice t len qs.toArray).run P w = .ok (.slice (some ⟨w.heap.size, 0, none⟩) len len) (w.alloc (.cells zs.toArray e (0, 0)))) (hq : ps.map (fun p => (p.1, ev s p.2)) = qs.map (fun p => (p.1, some p.2))) (ho : o.op = .buildSlice t len ps.toArray) (hd : o.dst = some d) (hN : Nat.blt d X.N = true)
    (hh : ∀ g, Tr X ((d, .slice (some ⟨g, 0, none⟩) len len) :: s) (.blk g e zs :: h) K) : Tr X s h (Op P o K K0) := fun a w st => by
  have key : ∀ (l : List (Nat × Operand)) (r : List (Nat × Value)), l.map (fun p => (p.1, ev s p.2)) = r.map (fun p => (p.1, some p.2)) → l.map (fun p => (p.1, a.eval p.2)) = r := by
    intro l
    induction l with
    | nil => intro r hr; cases r with | nil => rfl | cons _ _ => simp at hr
    | cons b l ih => intro r hr; cases r with
      | nil => simp at hr
      | cons c r =>
        simp only [List.map_cons, List.cons.injEq, Prod.mk.injEq] at hr ⊢
        exact ⟨Prod.ext hr.1.1 (st.ag _ _ hr.1.2), ih r hr.2⟩
  have hr' : (execOp a.eval o).run P w = .ok (.value (.slice (some ⟨w.heap.size, 0, none⟩) len len)) (w.alloc (.cells zs.toArray e (0, 0))) := by
    unfold execOp; rw [ho]
    have : (ps.toArray.map fun (x : Nat × Operand) => (x.1, a.eval x.2)) = qs.toArray := by rw [List.map_toArray, key ps qs hq]
    simp only [this]
    rw [Sem.run_bind, hr w]; rfl
  exact op_val hr' (by rw [hd]; exact hh _ _ _ (st.newblk hN e zs _))
theorem madeCells_list (z : Value) (n : Nat) (hz : z.cells = #[z]) : (madeCells z.cells n).toList = List.replicate n z := by
  rw [hz]
  apply List.ext_getElem
  · simp [madeCells]
  · intro i h1 h2; simp [madeCells, Nat.mod_one]
/-- A slice is made: one cell an element. -/
theorem op_make {d : Nat} {t e : TypeId} {x y : Operand} {z : Value} {bytes n c : Nat} (ht : P.underlying t = some (.slice e)) (hi : (P.info? e).map (fun i => (i.zero, i.size, i.bytes)) = some (some z, 1, bytes)) (hz : z.cells = #[z]) (hnc : n ≤ c) (hb : bytes * c ≤ 281474976710656) (hc : c ≤ 9223372036854775807)
    (ho : o.op = .makeSlice t x y) (hx : ev s x = some (.int .i64 (n : Int))) (hy : ev s y = some (.int .i64 (c : Int))) (hd : o.dst = some d) (hN : Nat.blt d X.N = true)
    (hh : ∀ g, Tr X ((d, .slice (some ⟨g, 0, none⟩) n c) :: s) (.blk g e (List.replicate c z) :: h) K) : Tr X s h (Op P o K K0) := fun a w st => by
  obtain ⟨i, hi1, hi2⟩ := Option.map_eq_some_iff.1 hi
  simp only [Prod.mk.injEq] at hi2
  obtain ⟨h1, h2, h3⟩ := hi2
  have hb' : (i.bytes : Int) * (c : Int) ≤ 281474976710656 := by rw [h3]; omega
  have hr := run_make (P := P) w t e i z ht hi1 h1 .i64 .i64 (n : Int) (c : Int) (by omega) (by omega) hb' (by omega)
  have hcells : madeCells z.cells (((c : Int)).toNat * i.size) = (List.replicate c z).toArray := by
    apply Array.toList_inj.1
    rw [madeCells_list z _ hz, h2, Nat.mul_one, Int.toNat_natCast]
  rw [hcells] at hr
  have hr' : (execOp a.eval o).run P w = .ok (.value (.slice (some ⟨w.heap.size, 0, none⟩) n c)) (w.alloc (.cells (List.replicate c z).toArray e (0, 0))) := by
    unfold execOp; rw [ho]
    simp only [st.ag _ _ hx, st.ag _ _ hy]
    rw [Sem.run_bind, hr]; rfl
  exact op_val hr' (by rw [hd]; exact hh _ _ _ (st.newblk hN e _ _))
/-- A store into a block of the call's own. -/
theorem op_store {ty e : TypeId} {x y : Operand} {g m : Nat} {cs vs cs' : List Value} (i : Nat) (hi : h[i]? = some (.blk g e cs)) (hv : v.cells.toList = vs) (hz : (P.info? ty).map (·.size) = some vs.length) (h1 : ∀ u ∈ vs, u.oneCell' = true) (hm : m + vs.length ≤ cs.length) (hc : cs.take m ++ vs ++ cs.drop (m + vs.length) = cs')
    (ho : o.op = .store ty x y) (hx : ev s x = some (.pointer (some ⟨g, m, none⟩))) (hy : ev s y = some v) (hd : o.dst = none) (hh : Tr X s (.blk g e cs' :: h.eraseIdx i) K) : Tr X s h (Op P o K K0) := fun a w st => by
  have hb : w.heap[g]? = some (.cells cs.toArray e (0, 0)) := st.ok _ (List.mem_of_getElem? hi)
  have hst := run_storeCells_at (P := P) g m e vs 0 cs.toArray w hb (by simpa using hm) h1
  simp only [Nat.add_zero] at hst
  have hr : (execOp a.eval o).run P w = .ok .skip (w.setRow g cs'.toArray) := by
    subst hv
    unfold execOp; rw [ho]
    simp only [st.ag _ _ hx, st.ag _ _ hy, Instr.storeAt, Instr.sureAddr, storeVar, Sem.run_bind, Sem.run_pure, Result.andThen_ok, run_sizeOf hz]
    have : ¬ v.cells.size ≠ v.cells.toList.length := by simp
    rw [if_neg this, hst, ← hc]
    simp
  refine op_skp hr hd (hh a _ ?_)
  refine st.swap [.blk g e cs] (h.eraseIdx i) [.blk g e cs'] (perm_erase h i _ hi) st.sz st.df st.sl ⟨⟨rfl, rfl, rfl, by simp⟩, fun k _ hk => setRow_other w g k _ (fun e => hk (by simp [HA.ids, e]))⟩ ?_ ?_ ?_ ?_
  · intro x hx; rw [List.mem_singleton] at hx; subst hx; exact setRow_heap w g _ _ e _ hb
  · intro x hx k hk; rw [List.mem_singleton] at hx; subst hx; exact .inl (by simpa [HA.ids, HA.frs] using hk)
  · simp [HA.ids]
  · intro x hx r hr; rw [List.mem_singleton] at hx; subst hx; cases hr
theorem splice_set {α : Type} {xs : List α} {m : Nat} {v : α} (hm : m < xs.length) : xs.take m ++ [v] ++ xs.drop (m + [v].length) = xs.set m v := by
  rw [List.set_eq_take_append_cons_drop, if_pos hm]; simp
theorem splice_map {β : Type} {f : β → Value} {xs : List β} {m : Nat} {v : β} (hm : m < xs.length) : (xs.map f).take m ++ [f v] ++ (xs.map f).drop (m + [f v].length) = (xs.set m v).map f := by
  rw [splice_set (by simpa using hm), List.map_set]
theorem splice_all {cs vs : List Value} (hl : cs.length = vs.length) : cs.take 0 ++ vs ++ cs.drop (0 + vs.length) = vs := by simp [hl]
theorem all8_one (xs : List (BitVec 8)) : ∀ u ∈ xs.map b8, u.oneCell' = true := by intro u hu; obtain ⟨x, _, rfl⟩ := List.mem_map.1 hu; rfl
theorem all32_one (xs : List (BitVec 32)) : ∀ u ∈ xs.map b32, u.oneCell' = true := by intro u hu; obtain ⟨x, _, rfl⟩ := List.mem_map.1 hu; rfl
theorem all64_one (xs : List (BitVec 64)) : ∀ u ∈ xs.map b64, u.oneCell' = true := by intro u hu; obtain ⟨x, _, rfl⟩ := List.mem_map.1 hu; rfl
theorem one_one {v : Value} (hv : v.oneCell' = true) : ∀ u ∈ [v], u.oneCell' = true := by intro u hu; rw [List.mem_singleton] at hu; exact hu ▸ hv
/-- A row of the call's own that holds nothing. -/
theorem T_nilrow {J : Jd} (e : TypeId) (z : Nat) (hh : Tr X s (.row (.slice none 0 0) e z 0 [] :: h) J) : Tr X s h J := fun a w st => by
  refine hh a w (st.swap [] h [_] (List.Perm.refl _) st.sz st.df st.sl (Keep.refl _ _) ?_ ?_ ?_ ?_)
  · intro x hx; rw [List.mem_singleton] at hx; subst hx; exact World.ownsRow_nil w 0 e z
  · intro x hx k hk; rw [List.mem_singleton] at hx; subst hx; simp [HA.frs, Value.ownBlock] at hk
  · simp [HA.ids, Value.ownBlock]
  · intro x hx r hr; rw [List.mem_singleton] at hx; subst hx; cases hr
/-- A block held whole, as a slice with room behind it. -/
theorem T_rowb {J : Jd} (i : Nat) {g : Nat} {e : TypeId} {cs zs : List Value} (z n c : Nat) (hi : h[i]? = some (.blk g e cs)) (hnc : n ≤ c) (hc : c ≤ 9223372036854775807) (hl : cs.length = c * z) (hz : cs.take (n * z) = zs) (hh : Tr X s (.row (.slice (some ⟨g, 0, none⟩) n c) e z n zs :: h.eraseIdx i) J) : Tr X s h J := fun a w st => by
  have hb : w.heap[g]? = some (.cells cs.toArray e (0, 0)) := st.ok _ (List.mem_of_getElem? hi)
  refine hh a w (st.swap [.blk g e cs] (h.eraseIdx i) [_] (perm_erase h i _ hi) st.sz st.df st.sl (Keep.refl _ _) ?_ ?_ ?_ ?_)
  · intro x hx; rw [List.mem_singleton] at hx; subst hx
    refine ⟨?_, .inr ⟨g, c, cs.toArray, rfl, Nat.zero_le _, hb, hnc, by unfold maxLen; omega, by simpa using hl, by simpa using hz⟩⟩
    rw [← hz, List.length_take, hl]
    have : n * z ≤ c * z := Nat.mul_le_mul_right z hnc
    omega
  · intro x hx k hk; rw [List.mem_singleton] at hx; subst hx; exact .inl (by simpa [HA.ids, HA.frs, Value.ownBlock] using hk)
  · simp [HA.ids, Value.ownBlock]
  · intro x hx r hr; rw [List.mem_singleton] at hx; subst hx; cases hr
/-- A row that nobody writes any more. -/
theorem T_old {J : Jd} (i : Nat) {A : Option Addr} {e : TypeId} {z n c : Nat} {zs : List Value} (hi : h[i]? = some (.row (.slice A n c) e z n zs)) (hh : Tr X s (.old A z n c zs :: h.eraseIdx i) J) : Tr X s h J := fun a w st => by
  have hx := st.ok _ (List.mem_of_getElem? hi)
  have hr := (src_row i hi w st.ok).1
  have hids : ∀ k, k ∈ (HA.old A z n c zs).rids → k ∈ (HA.row (.slice A n c) e z n zs).ids := by
    intro k hk
    obtain ⟨_, ad, rfl, h2⟩ := mem_rid.1 hk
    simp [HA.ids, Value.ownBlock, h2]
  refine hh a w (st.swap [.row (.slice A n c) e z n zs] (h.eraseIdx i) [_] (perm_erase h i _ hi) st.sz st.df st.sl (Keep.refl _ _) ?_ ?_ ?_ ?_)
  · intro x hx'; rw [List.mem_singleton] at hx'; subst hx'
    refine ⟨hr, fun ad ea _ => ?_⟩
    subst ea
    exact HA.lt hx _ (by simp [HA.ids, Value.ownBlock])
  · intro x hx' k hk; rw [List.mem_singleton] at hx'; subst hx'; exact .inl (by simpa using hids k hk)
  · simp [HA.ids]
  · intro x hx' r hr'; rw [List.mem_singleton] at hx'; subst hx'; exact ⟨hr', by intro y hy; rw [List.mem_singleton] at hy; subst hy; simp [HA.ids]⟩
/-- A block of the call's own that nobody writes any more, as a slice. -/
theorem T_oldb {J : Jd} (i : Nat) {g : Nat} {e : TypeId} {cs zs : List Value} (m z n c : Nat) (hi : h[i]? = some (.blk g e cs)) (hl : zs.length = n * z) (hz : (cs.drop m).take (n * z) = zs) (hnc : n ≤ c) (hc : c ≤ 9223372036854775807) (hh : Tr X s (.old (some ⟨g, m, none⟩) z n c zs :: h.eraseIdx i) J) : Tr X s h J := fun a w st => by
  have hx := st.ok _ (List.mem_of_getElem? hi)
  have hr := (src_blk i hi hl hz hnc hc w st.ok).1
  refine hh a w (st.swap [.blk g e cs] (h.eraseIdx i) [_] (perm_erase h i _ hi) st.sz st.df st.sl (Keep.refl _ _) ?_ ?_ ?_ ?_)
  · intro x hx'; rw [List.mem_singleton] at hx'; subst hx'
    refine ⟨hr, fun ad ea _ => ?_⟩
    cases ea
    exact HA.lt hx _ (by simp [HA.ids])
  · intro x hx' k hk; rw [List.mem_singleton] at hx'; subst hx'; exact .inl (by obtain ⟨_, ad, e1, h2⟩ := mem_rid.1 hk; cases e1; simp [HA.ids, ← h2])
  · simp [HA.ids]
  · intro x hx' r hr'; rw [List.mem_singleton] at hx'; subst hx'; exact ⟨hr', by intro y hy; rw [List.mem_singleton] at hy; subst hy; simp [HA.ids]⟩
/-- A row's slice stands at the head of a block, if it holds something. -/
theorem T_rowg {J : Jd} (i : Nat) {A : Option Addr} {e : TypeId} {z n c : Nat} {zs : List Value} (hi : h[i]? = some (.row (.slice A n c) e z n zs)) (hn : 0 < n) (hh : ∀ g, A = some ⟨g, 0, none⟩ → Tr X s h J) : Tr X s h J := fun a w st => by
  obtain ⟨hl, h1 | ⟨g, cap, cur, hv, _⟩⟩ := st.ok _ (List.mem_of_getElem? hi)
  · obtain ⟨h2, h3⟩ := h1; omega
  · cases hv; exact hh g rfl a w st
/-- append: what it gives, and which block it may have written. -/
theorem run_app {t ty e : TypeId} {i : TypeInfo} {z : Value} {size bytes : Nat} (w : World) (ht : P.underlying t = some (.slice e)) (hi : P.info? e = some i) (hz : i.zero = some z)
    (hsize : i.size = size) (hby : i.bytes = bytes) (hzs : z.cells.size = size) (hsz : 0 < size) {v : Value} {n : Nat} {xs : List Value} (hown : w.ownsRow 0 e size v n xs) {A : Option Addr} {m c : Nat} {news : List Value} (hrd : RdV w A size m c news) (h1 : ∀ u ∈ news, u.oneCell' = true)
    (h63 : n + m ≤ 9223372036854775807) (hbytes : (n + m) * bytes ≤ 140737488355328) :
    ∃ A' c' w', (Builtin.append_ #[t, t] ty #[v, .slice A m c]).run P w = .ok (.slice A' (n + m) c') w' ∧ w'.ownsRow 0 e size (.slice A' (n + m) c') (n + m) (xs ++ news) ∧ w.grownBy w' v.ownBlock ∧ (∀ k, (Value.slice A' (n + m) c').ownBlock = some k → v.ownBlock = some k ∨ w.heap.size ≤ k) := by
  have shape : ∀ {v' : Value} {w' : World} {k : Nat} {ys : List Value}, w'.ownsRow 0 e size v' k ys → ∃ A' c', v' = .slice A' k c' := by
    intro v' w' k ys ho
    rcases ho.2 with ⟨rfl, rfl⟩ | ⟨g, cap, cur, rfl, _⟩
    · exact ⟨none, 0, rfl⟩
    · exact ⟨_, _, rfl⟩
  cases A with
  | none =>
    have h0 := hrd.isn rfl; have h2 := hrd.le; have h3 := hrd.len
    obtain rfl : m = 0 := by omega
    obtain rfl : c = 0 := h0
    obtain rfl : news = [] := List.eq_nil_of_length_eq_zero (by simpa using h3)
    obtain ⟨A', c', rfl⟩ := shape hown
    refine ⟨A', c', w, ?_, by simpa using hown, World.grownBy.refl _ _, fun k hk => .inl hk⟩
    exact run_append_owned_none (P := P) (w := w) 0 t ty e i size ht hi _ n xs hown
  | some ad =>
    have hm63 : n + m ≤ maxLen := by unfold maxLen; omega
    obtain ⟨v', w', hr, ho', hg', -⟩ := run_append_own (P := P) w 0 t ty e i z size bytes ht hi hz hsize hby hzs hsz v n xs hown ad m c news hrd.len (fun j u hu => hrd.cells ad rfl j u hu) h1 hm63 hbytes (Nat.zero_le _)
    obtain ⟨A', c', rfl⟩ := shape ho'
    refine ⟨A', c', w', hr, ho', hg', ?_⟩
    intro k hk
    subst hsize; subst hby
    rcases hown.2 with ⟨rfl, rfl⟩ | ⟨g, cap, cur, rfl, -, hgb, hnc, hcm, hcs, htake⟩
    · by_cases hm0 : m = 0
      · subst hm0
        rcases ho'.2 with ⟨e1, -⟩ | ⟨g', cap', cur', e1, -, -, -⟩
        · rw [e1] at hk; cases hk
        · have h9 : (Builtin.append_ #[t, t] ty #[.slice none 0 0, .slice (some ad) 0 c]).run P w = .ok (.slice none 0 0) w := by
            simp [Builtin.append_, run_underlying ht, sizeOf, typeInfo, hi, Builtin.lenOf, Builtin.firstCells, loadCells, loadCellsFrom]
          rw [h9] at hr
          injection hr with hr1 hr2
          cases hr1
          cases hk
      · have h9 := run_append_nil (P := P) w t ty e i z ht hi hz ad m c news hrd.len (fun j u hu => hrd.cells ad rfl j u hu) (by omega) (by omega) (by simp only [Nat.zero_add] at hbytes; omega)
        rw [hr] at h9
        injection h9 with h10 h11
        rw [h10] at hk
        cases hk
        exact .inr (Nat.le_refl _)
    · by_cases hroom : n + m ≤ cap
      · have h9 := run_append_room (P := P) w t ty e i ht hi g n cap cur hgb ad m c news hrd.len (fun j u hu => hrd.cells ad rfl j u hu) h1 hroom (by rw [hrd.len, hcs, ← Nat.add_mul]; exact Nat.mul_le_mul_right _ hroom)
        rw [hr] at h9
        injection h9 with h10 h11
        rw [h10] at hk
        exact .inl hk
      · have h9 := run_append_grow (P := P) w t ty e i z ht hi hz ⟨g, 0, none⟩ n cap xs hown.1 (hown.cells (g := g) rfl) ad m c news hrd.len (fun j u hu => hrd.cells ad rfl j u hu) (by omega) (by omega) (growslice_fits (by omega) hbytes)
        rw [hr] at h9
        injection h9 with h10 h11
        rw [h10] at hk
        cases hk
        exact .inr (Nat.le_refl _)
/-- append onto a row of the call's own. -/
theorem op_append {d : Nat} {t e : TypeId} {x y : Operand} {z : Value} {size bytes n m c : Nat} {A : Option Addr} {xs news : List Value} (i : Nat) (hi : h[i]? = some (.row v e size n xs)) (ht : P.underlying t = some (.slice e)) (hin : (P.info? e).map (fun i => (i.zero, i.size, i.bytes)) = some (some z, size, bytes)) (hzs : z.cells.size = size) (hsz : 0 < size)
    (hs : Src h A size m c news) (h1 : ∀ u ∈ news, u.oneCell' = true) (h63 : n + m ≤ 9223372036854775807) (hbytes : (n + m) * bytes ≤ 140737488355328)
    (ho : o.op = .call { callee := .builtin .append, args := #[x, y], argTypes := #[t, t] }) (hx : ev s x = some v) (hy : ev s y = some (.slice A m c)) (hd : o.dst = some d) (hN : Nat.blt d X.N = true)
    (hh : ∀ A' c', Tr X ((d, .slice A' (n + m) c') :: s) (.row (.slice A' (n + m) c') e size (n + m) (xs ++ news) :: h.eraseIdx i) K) : Tr X s h (Op P o K K0) := fun a w st => by
  obtain ⟨ti, hi1, hi2⟩ := Option.map_eq_some_iff.1 hin
  simp only [Prod.mk.injEq] at hi2
  obtain ⟨hz, hsize, hby⟩ := hi2
  have hown : w.ownsRow 0 e size v n xs := st.ok _ (List.mem_of_getElem? hi)
  obtain ⟨A', c', w', hr, ho', hg', hb'⟩ := run_app (P := P) (ty := o.type) w ht hi1 hz hsize hby hzs hsz hown (hs w st.ok).1 h1 h63 hbytes
  have hr' : (execOp a.eval o).run P w = .ok (.value (.slice A' (n + m) c')) w' := by
    unfold execOp
    rw [ho]
    simp [resolve, invoke, builtin, st.ag _ _ hx, st.ag _ _ hy, hr]
  refine op_val hr' ?_
  rw [hd]
  refine hh A' c' _ _ (st.swapv [.row v e size n xs] (h.eraseIdx i) [.row (.slice A' (n + m) c') e size (n + m) (xs ++ news)] (perm_erase h i _ hi) hN _ ?_ ?_ ?_ ?_ ?_)
  · have := Keep.of_grown hg'; simpa [HA.ids] using this
  · intro x hx; rw [List.mem_singleton] at hx; subst hx; exact ho'
  · intro x hx k hk; rw [List.mem_singleton] at hx; subst hx
    have := hb' k (by simpa [HA.frs] using hk)
    exact this.imp (fun h => by simp [HA.ids, h]) id
  · simp only [List.flatMap_cons, List.flatMap_nil, List.append_nil, HA.ids]
    cases (Value.slice A' (n + m) c').ownBlock <;> simp
  · intro x hx r hr; rw [List.mem_singleton] at hx; subst hx; cases hr
/-- Part of a row that is read. -/
theorem T_part {J : Jd} (i : Nat) {A : Option Addr} {z n c : Nat} {cs : List Value} (hi : h[i]? = some (.rd A z n c cs)) {B : Option Addr} {n' c' : Nat} {cs' : List Value} (hB : ∀ w, HOK h w → RdV w B z n' c' cs') (hb : ∀ ad, B = some ad → ∃ ad', A = some ad' ∧ ad.block = ad'.block) (hcc : c' ≤ c) (hh : Tr X s (.rd B z n' c' cs' :: h) J) : Tr X s h J := fun a w st => by
  have hm := List.mem_of_getElem? hi
  have hx := st.ok _ hm
  have hr : ∀ r ∈ (HA.rd B z n' c' cs').rids, r ∈ (HA.rd A z n c cs).rids := by
    intro r hr
    obtain ⟨hc, ad, h1, h2⟩ := mem_rid.1 hr
    obtain ⟨ad', h3, h4⟩ := hb ad h1
    exact mem_rid.2 ⟨by omega, ad', h3, by rw [← h4, h2]⟩
  refine hh a w ⟨st.sz, st.df, st.sl, st.kp, ?_, st.ll, ?_, ?_, ?_, ?_, ?_, ⟨st.rk.1, ?_⟩⟩
  · intro x hx'
    rcases List.mem_cons.1 hx' with rfl | hx'
    · refine ⟨hB w st.ok, fun ad e hc => ?_⟩
      obtain ⟨ad', h3, h4⟩ := hb ad e
      rw [h4]; exact hx.2 ad' h3 (by omega)
    · exact st.ok x hx'
  · intro x hx' k hk
    rcases List.mem_cons.1 hx' with rfl | hx'
    · cases hk
    · exact st.fr x hx' k hk
  · simpa [HA.ids] using st.nd
  · intro x hx' y hy r hrr
    rcases List.mem_cons.1 hy with rfl | hy
    · simp [HA.ids]
    · rcases List.mem_cons.1 hx' with rfl | hx'
      · exact st.dj _ hm y hy r (hr r hrr)
      · exact st.dj x hx' y hy r hrr
  · intro x hx' o ho y hy hyb hor
    rcases List.mem_cons.1 hx' with rfl | hx'
    · cases ho
    · rcases List.mem_cons.1 hy with rfl | hy
      · exact st.iv x hx' o ho _ hm rfl (hr o hor)
      · exact st.iv x hx' o ho y hy hyb hor
  · intro x hx' B hB
    rcases List.mem_cons.1 hx' with rfl | hx'
    · cases hB
    · exact st.ib x hx' B hB
  · intro x hx' r hrr
    rcases List.mem_cons.1 hx' with rfl | hx'
    · exact st.rk.2 _ hm r (hr r hrr)
    · exact st.rk.2 x hx' r hrr
theorem rdv_part {w : World} {A : Option Addr} {z n c lo hi : Nat} {cs : List Value} (hr : RdV w A z n c cs) (h1 : lo ≤ hi) (h2 : hi ≤ n) : RdV w (if c = lo then A else A.map (·.add (lo * z))) z (hi - lo) (c - lo) ((cs.drop (lo * z)).take ((hi - lo) * z)) := by
  have hl := hr.len; have hle := hr.le; have hm := hr.most
  have e1 : lo * z + (hi - lo) * z = hi * z := by rw [← Nat.add_mul]; congr 1; omega
  have e2 : hi * z ≤ n * z := Nat.mul_le_mul_right z h2
  refine ⟨?_, by omega, by omega, ?_, ?_⟩
  · simp only [List.length_take, List.length_drop, hl]; omega
  · intro e
    by_cases hc : c = lo
    · omega
    · rw [if_neg hc] at e
      have : A = none := by simpa using e
      have := hr.isn this; omega
  · intro ad e j v hj
    rw [List.getElem?_take] at hj
    split at hj
    case isFalse => cases hj
    case isTrue hjl =>
      rw [List.getElem?_drop] at hj
      by_cases hc : c = lo
      · have : hi - lo = 0 := by omega
        rw [this] at hjl; simp at hjl
      · rw [if_neg hc] at e
        obtain ⟨ad', h3, h4⟩ := Option.map_eq_some_iff.1 e
        have := hr.cells ad' h3 (lo * z + j) v hj
        rw [← h4, Addr.add_add]
        exact this
/-- A slice of a slice that is read. -/
theorem op_slice_rd {d : Nat} {t e : TypeId} {x : Operand} {lo hi : Option Operand} {A : Option Addr} {z n n0 c l u : Nat} {cs : List Value} (i : Nat) (hi' : h[i]? = some (.rd A z n c cs)) (hlu : l ≤ u) (hun : u ≤ n) (ht : P.underlying t = some (.slice e)) (hz : (P.info? e).map (·.size) = some z)
    (ho : o.op = .slice t x lo hi none) (hx : ev s x = some (.slice A n0 c)) (hl : (match lo with | none => l = 0 | some y => ∃ k, ev s y = some (.int k (l : Int)))) (hu : (match hi with | none => u = n0 | some y => ∃ k, ev s y = some (.int k (u : Int)))) (hd : o.dst = some d) (hN : Nat.blt d X.N = true)
    (hh : ∀ A', Tr X ((d, .slice A' (u - l) (c - l)) :: s) (.rd A' z (u - l) (c - l) ((cs.drop (l * z)).take ((u - l) * z)) :: h) K) : Tr X s h (Op P o K K0) := fun a w st => by
  have hrd := (src_rd i hi' w st.ok).1
  have hr : (execOp a.eval o).run P w = .ok (.value (.slice (if c = l then A else A.map (·.add (l * z))) (u - l) (c - l))) w := by
    have hle := hrd.le
    have g1 : (0 : Int) ≤ (u : Int) ∧ (u : Int) ≤ c := by omega
    have g2 : (0 : Int) ≤ (l : Int) ∧ (l : Int) ≤ u := by omega
    unfold execOp; rw [ho]
    cases lo with
    | none =>
      obtain rfl : l = 0 := hl
      cases hi with
      | none =>
        obtain rfl : u = n0 := hu
        simp [st.ag _ _ hx, Instr.sliceAt, run_underlying ht, Instr.slice, Instr.sliceBounds, run_sizeOf hz]
      | some y =>
        obtain ⟨k, hk⟩ := hu
        have g3 : ¬ c < u := by omega
        have g4 : u ≤ c := by omega
        simp [st.ag _ _ hx, st.ag _ _ hk, Instr.sliceAt, run_underlying ht, Instr.slice, Instr.sliceBounds, Instr.sliceBound, asIntOf, g1, g3, g4, run_sizeOf hz]
    | some y =>
      obtain ⟨k, hk⟩ := hl
      cases hi with
      | none =>
        obtain rfl : u = n0 := hu
        have g3 : ¬ u < l := by omega
        simp [st.ag _ _ hx, st.ag _ _ hk, Instr.sliceAt, run_underlying ht, Instr.slice, Instr.sliceBounds, Instr.sliceBound, asIntOf, g2, g3, hlu, run_sizeOf hz]
      | some y' =>
        obtain ⟨k', hk'⟩ := hu
        have g3 : ¬ u < l := by omega
        have g4 : u ≤ c := by omega
        have g5 : ¬ c < u := by omega
        simp [st.ag _ _ hx, st.ag _ _ hk, st.ag _ _ hk', Instr.sliceAt, run_underlying ht, Instr.slice, Instr.sliceBounds, Instr.sliceBound, asIntOf, g1, g2, g3, g4, g5, hlu, run_sizeOf hz]
  refine op_val hr ?_
  rw [hd]
  have st' := st.put (Nat.le_of_ble_eq_true hN) (.slice (if c = l then A else A.map (·.add (l * z))) (u - l) (c - l))
  refine T_part i hi' (fun w hw => rdv_part (src_rd i hi' w hw).1 hlu hun) ?_ (by omega) (hh _) _ _ st'
  intro ad e
  by_cases hc : c = l
  · rw [if_pos hc] at e; exact ⟨ad, e, rfl⟩
  · rw [if_neg hc] at e
    obtain ⟨ad', h3, h4⟩ := Option.map_eq_some_iff.1 e
    exact ⟨ad', h3, by rw [← h4, add_block]⟩
/-- A slice of an array that lies in a block of the call's own. -/
theorem pr_sla {t e : TypeId} {x : Operand} {lo hi : Option Operand} {g len z l u m : Nat} (hlu : l ≤ u) (hun : u ≤ len) (hl0 : l < len ∨ l = 0) (hm : l * z = m) (ht : P.underlying t = some (.array len e)) (hz : (P.info? e).map (·.size) = some z)
    (ho : o.op = .slice t x lo hi none) (hx : ev s x = some (.pointer (some ⟨g, 0, none⟩))) (hl : (match lo with | none => l = 0 | some y => ∃ k, ev s y = some (.int k (l : Int)))) (hu : (match hi with | none => u = len | some y => ∃ k, ev s y = some (.int k (u : Int)))) : Pr P s h o (.slice (some ⟨g, m, none⟩) (u - l) (len - l)) := fun ev' he w hw w' => by
  subst hm
  have g1 : (0 : Int) ≤ (u : Int) ∧ (u : Int) ≤ len := by omega
  have g2 : (0 : Int) ≤ (l : Int) ∧ (l : Int) ≤ u := by omega
  have key : (if len = l then (⟨g, 0, none⟩ : Addr) else (⟨g, 0, none⟩ : Addr).add (l * z)) = ⟨g, l * z, none⟩ := by
    by_cases hc : len = l
    · rw [if_pos hc]
      obtain rfl : l = 0 := by omega
      simp
    · rw [if_neg hc, Addr.add_lit, Nat.zero_add]
  unfold execOp; rw [ho]
  cases lo with
  | none =>
    obtain rfl : l = 0 := hl
    have key0 : (⟨g, 0, none⟩ : Addr).add 0 = ⟨g, 0, none⟩ := by rw [Addr.add_lit]
    cases hi with
    | none =>
      obtain rfl : u = len := hu
      simp [he _ _ hx, Instr.sliceAt, run_underlying ht, Instr.sureAddr, Instr.sliceBounds, run_sizeOf hz, key0]
    | some y =>
      obtain ⟨k, hk⟩ := hu
      have g3 : ¬ len < u := by omega
      have g4 : u ≤ len := by omega
      simp [he _ _ hx, he _ _ hk, Instr.sliceAt, run_underlying ht, Instr.sureAddr, Instr.sliceBounds, Instr.sliceBound, asIntOf, g1, g3, g4, run_sizeOf hz, key0]
  | some y =>
    obtain ⟨k, hk⟩ := hl
    cases hi with
    | none =>
      obtain rfl : u = len := hu
      have g3 : ¬ u < l := by omega
      simp [he _ _ hx, he _ _ hk, Instr.sliceAt, run_underlying ht, Instr.sureAddr, Instr.sliceBounds, Instr.sliceBound, asIntOf, g2, g3, hlu, run_sizeOf hz]
      simpa using key
    | some y' =>
      obtain ⟨k', hk'⟩ := hu
      have g3 : ¬ u < l := by omega
      have g4 : u ≤ len := by omega
      have g5 : ¬ len < u := by omega
      simp [he _ _ hx, he _ _ hk, he _ _ hk', Instr.sliceAt, run_underlying ht, Instr.sureAddr, Instr.sliceBounds, Instr.sliceBound, asIntOf, g1, g2, g3, g4, g5, hlu, run_sizeOf hz]
      simpa using key
/-- A call. -/
theorem run_calls {f : FuncId} {c : Operand} {xs : List Operand} {ts : Array TypeId} {vs cap : List Value} {e : Operand → Value} (he : Ag s e) (hf : Go.Proofs.Enters P f) (ho : o.op = .call { callee := .value c, args := xs.toArray, argTypes := ts }) (hc : ev s c = some (.func (.func f) #[] cap.toArray)) (hx : xs.map (ev s) = vs.map some) (w : World) : (execOp e o).run P w = .ok (.enter f (vs ++ cap).toArray) w := by
  have key : ∀ (l : List Operand) (r : List Value), l.map (ev s) = r.map some → l.map e = r := by
    intro l
    induction l with
    | nil => intro r hr; cases r with | nil => rfl | cons _ _ => simp at hr
    | cons a l ih => intro r hr; cases r with
      | nil => simp at hr
      | cons b r => simp only [List.map_cons, List.cons.injEq] at hr ⊢; exact ⟨he _ _ hr.1, ih r hr.2⟩
  unfold execOp; rw [ho]
  have h1 := hf (vs ++ cap).toArray w
  simp [resolve, he _ _ hc, Deferred.ofValue, invoke, key xs vs hx, h1]
theorem op_call {T : Type} {q : T → Prop} {res : T → Value} {hs : T → List HA} {f : FuncId} {c : Operand} {xs : List Operand} {ts : Array TypeId} {vs cap : List Value} {out keep : List HA} {d : Nat} (hcon : ∀ w, HOK h w → Calls P f (vs ++ cap).toArray w (Ret (out.flatMap HA.ids) w q res hs)) (hp : h.Perm (out ++ keep)) (hf : Go.Proofs.Enters P f)
    (ho : o.op = .call { callee := .value c, args := xs.toArray, argTypes := ts }) (hc : ev s c = some (.func (.func f) #[] cap.toArray)) (hx : xs.map (ev s) = vs.map some) (hd : o.dst = some d) (hN : Nat.blt d X.N = true) (hh : ∀ t, q t → Tr X ((d, res t) :: s) (hs t ++ keep) K) : Tr X s h (Op P o K K0) := fun a w st => by
  unfold Op Oper.wp
  rw [run_calls st.ag hf ho hc hx w, Oper.upon_enter]
  refine (hcon w st.ok).mono fun e w' he => ?_
  obtain ⟨t, hq, rfl, hpo⟩ := he
  simp only
  rw [hd]
  exact hh t hq _ _ (st.swapv out keep (hs t) hp hN _ hpo.kp hpo.ok hpo.fr hpo.nd hpo.rd hpo.os)
/-- A call that gives what it gives and writes nothing of ours. -/
theorem op_call0 {T : Type} {q : T → Prop} {res : T → Value} {hs : T → List HA} {f : FuncId} {c : Operand} {xs : List Operand} {ts : Array TypeId} {vs cap : List Value} {d : Nat} (hcon : ∀ w, HOK h w → Calls P f (vs ++ cap).toArray w (Ret [] w q res hs)) (hf : Go.Proofs.Enters P f)
    (ho : o.op = .call { callee := .value c, args := xs.toArray, argTypes := ts }) (hc : ev s c = some (.func (.func f) #[] cap.toArray)) (hx : xs.map (ev s) = vs.map some) (hd : o.dst = some d) (hN : Nat.blt d X.N = true) (hh : ∀ t, q t → Tr X ((d, res t) :: s) (hs t ++ h) K) : Tr X s h (Op P o K K0) :=
  op_call (out := []) (keep := h) (by simpa using hcon) (List.Perm.refl _) hf ho hc hx hd hN hh
theorem op_call1 {T : Type} {q : T → Prop} {res : T → Value} {hs : T → List HA} {f : FuncId} {c : Operand} {xs : List Operand} {ts : Array TypeId} {vs cap : List Value} {d : Nat} {x : HA} (i : Nat) (hi : h[i]? = some x) (hcon : ∀ w, HOK h w → Calls P f (vs ++ cap).toArray w (Ret x.ids w q res hs)) (hf : Go.Proofs.Enters P f)
    (ho : o.op = .call { callee := .value c, args := xs.toArray, argTypes := ts }) (hc : ev s c = some (.func (.func f) #[] cap.toArray)) (hx : xs.map (ev s) = vs.map some) (hd : o.dst = some d) (hN : Nat.blt d X.N = true) (hh : ∀ t, q t → Tr X ((d, res t) :: s) (hs t ++ h.eraseIdx i) K) : Tr X s h (Op P o K K0) :=
  op_call (out := [x]) (keep := h.eraseIdx i) (by simpa using hcon) (perm_erase h i x hi) hf ho hc hx hd hN hh
/-- A call whose answer the slots tell, and that changes nothing: a load among others. -/
theorem resb {fn : Func} {p : Nat} {ty : TypeId} {g : Nat} {e' : TypeId} {cs : List Value} {td : TypeDesc} (i : Nat) (hi : h[i]? = some (.blk g e' cs)) (hr : fn.results = #[.cell p ty]) (hp : s.lookup p = some (.pointer (some ⟨g, 0, none⟩))) (ht : P.underlying ty = some td) (hn : isAggT td = true) (hz : (P.info? ty).map (·.size) = some cs.length) : ResV P fn s h (.agg cs.toArray) := fun tmps hs w hw => by
  have hb : w.heap[g]? = some (.cells cs.toArray e' (0, 0)) := hw _ (List.mem_of_getElem? hi)
  refine results_cell_row hr tmps w g e' cs.toArray (0, 0) td (by simp [Array.getD_eq_getD_getElem?, hs p _ hp]) hb ht ?_ (by simpa using hz)
  cases td <;> first | (cases hn; done) | rfl
end
end Go.Proofs.Ytlplpmkdebemnaa.Fw
