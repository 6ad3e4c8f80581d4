/- Rows of the call's own, blocks, and what is appended to them. No conditions. -/
import Derived.Test.YtlplpmkdebemnaaRd
import Derived.OwnWalk
import Derived.Laws.AppendOwnNone
import Derived.Laws.CopyOwn
import Derived.Laws.OwnMore
import Derived.Maps.AppendAt
namespace Go.Proofs.Ytlplpmkdebemnaa
set_option linter.unusedVariables false
set_option linter.unusedSimpArgs false
open Go.RowKit Bv

section
variable {k : Nat} {enc : BitVec k → Value} {P : Program} {w w' : World} {base n c g : Nat} {e : TypeId} {A : Option Addr} {xs ys : List (BitVec k)}
/-- What is owned is read. -/
theorem own_rd (h : w.ownsRow base e 1 (.slice A n c) n (xs.map enc)) : Rd enc w A n c xs := by
  obtain ⟨hl, h | ⟨g, cap, cur, hv, hg, hb, hn, hm, hs, ht⟩⟩ := h
  · obtain ⟨hv, rfl⟩ := h
    cases hv
    have : xs = [] := List.eq_nil_of_length_eq_zero (by simpa using hl)
    subst this
    exact Rd.nil _
  · cases hv
    have hl' : xs.length = n := by simpa using hl
    refine ⟨hl', hn, hm, (fun h => by cases h), fun ad ea j hj => ?_⟩
    cases ea
    have h1 : (⟨g, 0, none⟩ : Addr).add j = ⟨g, j, none⟩ := by rw [Addr.add_lit, Nat.zero_add]
    rw [h1]
    simp only [World.cell?, hb, Option.isSome_none, Bool.false_eq_true, if_false]
    have h2 : (cur.toList.take (n * 1))[j]? = (xs.map enc)[j]? := by rw [ht]
    rw [List.getElem?_take, if_pos (by omega)] at h2
    rw [List.getElem?_map, List.getElem?_eq_getElem (show j < xs.length by omega), ← ath_get xs j (by omega)] at h2
    simpa using h2
theorem own_form {v : Value} {zs : List Value} (h : w.ownsRow base e 1 v n zs) : ∃ A c, v = .slice A n c ∧ (A = none → c = 0) ∧ (∀ ad, A = some ad → ∃ g, ad = ⟨g, 0, none⟩ ∧ base ≤ g ∧ g < w.heap.size) := by
  obtain ⟨hl, h | ⟨g, cap, cur, hv, hg, hb, hn, hm, hs, ht⟩⟩ := h
  · obtain ⟨rfl, rfl⟩ := h
    exact ⟨none, 0, rfl, fun _ => rfl, (fun _ h => by cases h)⟩
  · refine ⟨_, _, hv, (fun h => by cases h), fun ad h => ?_⟩
    cases h
    exact ⟨g, rfl, hg, (Array.getElem?_eq_some_iff.1 hb).1⟩
/-- append of a slice that is read, onto a row of the call's own. -/
theorem wp_append_rd {o : Oper} {a : Act} {K : Act → World → Prop} {Q : Exit → Act → World → Prop} (henc : ∀ x, (enc x).oneCell' = true) (s x : Operand) (t : TypeId)
    (ho : o.op = .call { callee := .builtin .append, args := #[s, x], argTypes := #[t, t] })
    (base : Nat) (e : TypeId) (i : TypeInfo) (z : Value) (bytes : Nat) (ht : P.underlying t = some (.slice e)) (hi : P.info? e = some i) (hz : i.zero = some z)
    (hsize : i.size = 1) (hby : i.bytes = bytes) (hzs : z.cells.size = 1)
    (v : Value) (n : Nat) (zs : List Value) (hs : a.eval s = v) (hown : w.ownsRow base e 1 v n zs)
    (A : Option Addr) (m c : Nat) (ys : List (BitVec k)) (hx : a.eval x = .slice A m c) (hrd : Rd enc w A m c ys)
    (h63 : n + m ≤ maxLen) (hbytes : (n + m) * bytes ≤ 140737488355328) (hbase : base ≤ w.heap.size)
    (h : ∀ A' c' w', w'.ownsRow base e 1 (.slice A' (n + m) c') (n + m) (zs ++ ys.map enc) → w.grownBy w' v.ownBlock → K (a.put o.dst (.slice A' (n + m) c')) w') : o.wp P a w K Q := by
  cases A with
  | none =>
    have hc := hrd.isn rfl
    have hm : m = 0 := by have := hrd.le; omega
    subst hc hm
    have hys : ys = [] := List.eq_nil_of_length_eq_zero hrd.len
    subst hys
    have hrun := run_append_owned_none (P := P) (w := w) base t o.type e i 1 ht hi v n zs hown
    obtain ⟨A', c', rfl, _⟩ := own_form hown
    unfold Oper.wp
    simp [execOp, ho, resolve, invoke, builtin, hs, hx, hrun, Result.andThen]
    exact h A' c' w (by simpa using hown) (World.grownBy.refl _ _)
  | some ad =>
    refine wp_append_own w s x t ho base e i z 1 bytes ht hi hz hsize hby hzs (by omega) v n zs hs hown ad m c (ys.map enc) hx (by simp [hrd.len]) ?_ ?_ h63 hbytes hbase ?_
    · intro j u hu
      have hj : j < ys.length := by have := (List.getElem?_eq_some_iff.1 hu).1; simpa using this
      rw [hrd.cells ad rfl j (by rw [← hrd.len]; exact hj)]
      rw [List.getElem?_map, List.getElem?_eq_getElem hj, ← ath_get ys j hj] at hu
      simpa using hu
    · intro u hu
      obtain ⟨y, _, rfl⟩ := List.mem_map.1 hu
      exact henc y
    · intro v' w' h1 h2 h3
      obtain ⟨A', c', rfl, _⟩ := own_form h1
      exact h A' c' w' h1 h2
/-- An operation whose guard, if any, is met. -/
theorem wpList_want {ops : Array Oper} {rest : List Oper} {o : Oper} {a : Act} {Q : Exit → Act → World → Prop} (hg : Region.wanted o (yielded ops a.tmps) = true)
    (h : ∀ K : Act → World → Prop, (∀ a w, wpList P ops Q rest a w → K a w) → o.wp P a w K Q) : wpList P ops Q (o :: rest) a w :=
  wpList_step fun K hK => by rw [hg]; exact h K hK
theorem wpList_append_rd {ops : Array Oper} {rest : List Oper} {o : Oper} {a : Act} {Q : Exit → Act → World → Prop} (henc : ∀ x, (enc x).oneCell' = true) (hgd : Region.wanted o (yielded ops a.tmps) = true) (s x : Operand) (t : TypeId)
    (ho : o.op = .call { callee := .builtin .append, args := #[s, x], argTypes := #[t, t] })
    (base : Nat) (e : TypeId) (i : TypeInfo) (z : Value) (bytes : Nat) (ht : P.underlying t = some (.slice e)) (hi : P.info? e = some i) (hz : i.zero = some z)
    (hsize : i.size = 1) (hby : i.bytes = bytes) (hzs : z.cells.size = 1)
    (v : Value) (n : Nat) (zs : List Value) (hs : a.eval s = v) (hown : w.ownsRow base e 1 v n zs)
    (A : Option Addr) (m c : Nat) (ys : List (BitVec k)) (hx : a.eval x = .slice A m c) (hrd : Rd enc w A m c ys)
    (h63 : n + m ≤ maxLen) (hbytes : (n + m) * bytes ≤ 140737488355328) (hbase : base ≤ w.heap.size)
    (h : ∀ A' c' w', w'.ownsRow base e 1 (.slice A' (n + m) c') (n + m) (zs ++ ys.map enc) → w.grownBy w' v.ownBlock → wpList P ops Q rest (a.put o.dst (.slice A' (n + m) c')) w') : wpList P ops Q (o :: rest) a w :=
  wpList_want hgd fun K hK => wp_append_rd henc s x t ho base e i z bytes ht hi hz hsize hby hzs v n zs hs hown A m c ys hx hrd h63 hbytes hbase fun A' c' w' h1 h2 => hK _ _ (h A' c' w' h1 h2)
/-- append within the capacity: the value stays at its row's head. -/
theorem wpList_append_fits_rd {ops : Array Oper} {rest : List Oper} {o : Oper} {a : Act} {Q : Exit → Act → World → Prop} (henc : ∀ x, (enc x).oneCell' = true) (hgd : o.guard = none) (s x : Operand) (t : TypeId)
    (ho : o.op = Op.call { callee := Callee.builtin Builtin.append, args := #[s, x], argTypes := #[t, t] })
    (base : Nat) (e : TypeId) (i : TypeInfo) (ht : P.underlying t = some (.slice e)) (hi : P.info? e = some i) (hsize : i.size = 1)
    (g n cap : Nat) (zs : List Value) (hs : a.eval s = .slice (some ⟨g, 0, none⟩) n cap) (hown : w.ownsRow base e 1 (.slice (some ⟨g, 0, none⟩) n cap) n zs)
    (A : Option Addr) (m c : Nat) (ys : List (BitVec k)) (hx : a.eval x = .slice A m c) (hrd : Rd enc w A m c ys) (b1 : n + m ≤ cap)
    (h : ∀ w', w'.ownsRow base e 1 (.slice (some ⟨g, 0, none⟩) (n + m) cap) (n + m) (zs ++ ys.map enc) → w.grownBy w' (some g) → wpList P ops Q rest (a.put o.dst (.slice (some ⟨g, 0, none⟩) (n + m) cap)) w') : wpList P ops Q (o :: rest) a w :=
  wpList_append_fits_any w hgd s x t ho base e i 1 ht hi hsize g n cap zs hs hown A m c (ys.map enc) hx (by simp [hrd.len])
    (fun hA => by have h1 := hrd.isn hA; have := hrd.le; omega)
    (fun ad hA j u hu => by
      have hj : j < ys.length := by have := (List.getElem?_eq_some_iff.1 hu).1; simpa using this
      rw [hrd.cells ad hA j (by rw [← hrd.len]; exact hj)]
      rw [List.getElem?_map, List.getElem?_eq_getElem hj, ← ath_get ys j hj] at hu
      simpa using hu)
    (fun u hu => by obtain ⟨y, _, rfl⟩ := List.mem_map.1 hu; exact henc y) b1 h
theorem ownsRow_le' {base' : Nat} {v : Value} {zs : List Value} (h : w.ownsRow base e 1 v n zs) (hb : base' ≤ base) : w.ownsRow base' e 1 v n zs :=
  ⟨h.1, h.2.imp id fun ⟨g, cap, cur, a, b, r⟩ => ⟨g, cap, cur, a, Nat.le_trans hb b, r⟩⟩
theorem grown_below {row : Option Nat} {B : Nat} (hg : w.grownBy w' row) (hr : ∀ k, row = some k → B ≤ k) (hB : B ≤ w.heap.size) : Below B w w' := (Below.refl B w).grown hg hB hr
theorem own_below {B : Nat} {v : Value} {zs : List Value} (h : w.ownsRow base e 1 v n zs) (hb : Below B w w') (hB : w.heap.size ≤ B) : w'.ownsRow base e 1 v n zs := by
  obtain ⟨hl, h | ⟨g, cap, cur, hv, hg, hbk, hn, hm, hs, ht⟩⟩ := h
  · exact ⟨hl, .inl h⟩
  · exact ⟨hl, .inr ⟨g, cap, cur, hv, hg, (hb.block g (Nat.lt_of_lt_of_le (Array.getElem?_eq_some_iff.1 hbk).1 hB)).trans hbk, hn, hm, hs, ht⟩⟩
theorem own_block {v : Value} {zs : List Value} (h : w.ownsRow base e 1 v n zs) : ∀ k, v.ownBlock = some k → base ≤ k := by
  intro k hk
  obtain ⟨_, h | ⟨g, cap, cur, rfl, hg, _⟩⟩ := h
  · obtain ⟨rfl, _⟩ := h; cases hk
  · cases hk; exact hg
end

section
variable {k : Nat} {enc : BitVec k → Value} {w w' : World} {n c g : Nat} {e : TypeId} {A : Option Addr} {xs : List (BitVec k)}
theorem ath_set {k : Nat} (xs : List (BitVec k)) (i j : Nat) (v : BitVec k) (hi : i < xs.length) : ath (xs.set i v) j = if i = j then v else ath xs j := by
  simp only [ath, List.getD_eq_getElem?_getD, List.getElem?_set]
  by_cases h : i = j
  · subst h; simp [hi]
  · simp [h]
theorem Rd.set (h : Rd enc w (some ⟨g, 0, none⟩) n c xs) (i : Nat) (hi : i < n) (v : BitVec k) : Rd enc (w.setCell ⟨g, i, none⟩ (enc v)) (some ⟨g, 0, none⟩) n c (xs.set i v) := by
  refine ⟨by rw [List.length_set]; exact h.len, h.le, h.most, (fun h => by cases h), fun ad e j hj => ?_⟩
  cases e
  have h1 := h.cells _ rfl j hj
  have h2 := h.cells _ rfl i hi
  rw [Addr.add_lit, Nat.zero_add] at h1 h2 ⊢
  rw [ath_set xs i j v (by rw [h.len]; exact hi)]
  by_cases hij : i = j
  · subst hij
    rw [if_pos rfl]
    exact World.cell?_setCell_same' _ _ _ (by rw [h2]; rfl)
  · rw [if_neg hij, ← h1]
    exact World.cell?_setCell_other _ _ _ _ (fun e => hij (by cases e; rfl))
theorem Rd.one (w : World) (v : BitVec k) (e : TypeId) : Rd enc (w.alloc (.cells #[enc v] e (0, 0))) (some ⟨w.heap.size, 0, none⟩) 1 1 [v] := by
  refine ⟨rfl, Nat.le_refl _, by omega, (fun h => by cases h), fun ad ea j hj => ?_⟩
  cases ea
  obtain rfl : j = 0 := by omega
  rw [Addr.add_lit, Nat.zero_add]
  simp only [World.cell?, heap_alloc_new, Option.isSome_none, Bool.false_eq_true, if_false]
  simp [ath]
/-- A row of the call's own of at least one element stands at the head of a block. -/
theorem own_some {base : Nat} {zs : List Value} (h : w.ownsRow base e 1 (.slice A n c) n zs) (hn : 0 < n) : ∃ g, A = some ⟨g, 0, none⟩ ∧ base ≤ g ∧ g < w.heap.size ∧ ∀ j, w.frozen? ⟨g, j, none⟩ = false := by
  obtain ⟨hl, h | ⟨g, cap, cur, hv, hg, hb, _⟩⟩ := h
  · omega
  · cases hv
    exact ⟨g, rfl, hg, (Array.getElem?_eq_some_iff.1 hb).1, fun j => by simp [World.frozen?, hb]⟩
end

/-- Block g holds just these cells. -/
def Blk (w : World) (g : Nat) (e : TypeId) (cs : List Value) : Prop := w.heap[g]? = some (.cells cs.toArray e (0, 0))
section
variable {w w' : World} {g : Nat} {e : TypeId} {cs : List Value}
theorem Blk.cell (h : Blk w g e cs) (j : Nat) : w.cell? ⟨g, j, none⟩ = cs[j]? := by
  unfold Blk at h
  simp [World.cell?, h]
theorem Blk.frozen (h : Blk w g e cs) (j : Nat) : w.frozen? ⟨g, j, none⟩ = false := by
  unfold Blk at h
  simp [World.frozen?, h]
theorem Blk.lt (h : Blk w g e cs) : g < w.heap.size := (Array.getElem?_eq_some_iff.1 h).1
theorem Blk.set (h : Blk w g e cs) (j : Nat) (v : Value) : Blk (w.setCell ⟨g, j, none⟩ v) g e (cs.set j v) := by
  unfold Blk at *
  have hg := (Array.getElem?_eq_some_iff.1 h).1
  simp only [World.setCell, Array.getElem?_modify, if_pos, h, Option.map_some, Option.isSome_none, Bool.false_eq_true, if_false]
  simp
theorem Blk.below {B : Nat} (h : Blk w g e cs) (hb : Below B w w') (hB : g < B) : Blk w' g e cs := (hb.block g hB).trans h
theorem Blk.far (h : Blk w g e cs) {p : Addr} (hp : g ≠ p.block) (v : Value) : Blk (w.setCell p v) g e cs := (Below.heap_setCell w p v g hp).trans h
theorem Blk.alloc (h : Blk w g e cs) (o : Obj) : Blk (w.alloc o) g e cs := (Below.heap_alloc w o g h.lt).trans h
theorem Blk.drewN (h : Blk w g e cs) (m : Nat) : Blk (w.drewN m) g e cs := h
theorem Blk.new (w : World) (cs : List Value) (e : TypeId) : Blk (w.alloc (.cells cs.toArray e (0, 0))) w.heap.size e cs := heap_alloc_new w _
theorem Blk.cast {cs' : List Value} (h : Blk w g e cs) (he : cs = cs') : Blk w g e cs' := he ▸ h
end
end Go.Proofs.Ytlplpmkdebemnaa
