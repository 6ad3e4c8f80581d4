/- A walk by facts: rooms of records are filled. No conditions. -/
import Derived.Test.YtlplpmkdebemnaaFwP
namespace Go.Proofs.Ytlplpmkdebemnaa.Fw
set_option linter.unusedVariables false
set_option linter.unusedSimpArgs false
open Go.RowKit Bv
theorem splice_rcs {xs : List Rc} {j : Nat} {r : Rc} (h : j < xs.length) : (rcs xs).take (j * 4) ++ r.cs ++ (rcs xs).drop (j * 4 + r.cs.length) = rcs (xs.set j r) := by
  rw [List.set_eq_take_append_cons_drop, if_pos h, rcs_app, rcs, rcs_take, show j * 4 + r.cs.length = (j + 1) * 4 from by show j * 4 + 4 = _; omega, rcs_drop, List.append_assoc]
section
variable {P : Program} {X : Cx} {s : List (Nat × Value)} {h : List HA} {o : Oper} {K K0 J : Jd}
/-- A record is stored among some. -/
theorem op_storeR {ty e : TypeId} {x y : Operand} {g j : Nat} {xs : List Rc} {r : Rc} (i : Nat) (hi : h[i]? = some (.blk g e (rcs xs))) (hz : (P.info? ty).map (·.size) = some 4) (hj : j < xs.length)
    (ho : o.op = .store ty x y) (hx : ev s x = some (.pointer (some ⟨g, j * 4, none⟩))) (hy : ev s y = some (.agg r.cs.toArray)) (hd : o.dst = none) (hh : Tr X s (.blk g e (rcs (xs.set j r)) :: h.eraseIdx i) K) : Tr X s h (Op P o K K0) :=
  op_store (v := .agg r.cs.toArray) (vs := r.cs) i hi rfl hz (by have := rcs_one [r]; simpa [rcs] using this) (by rw [rcs_len]; show j * 4 + 4 ≤ _; omega) (splice_rcs hj) ho hx hy hd hh
theorem op_app_roomR {d : Nat} {t e : TypeId} {x y : Operand} {g n m c k : Nat} {A : Option Addr} {xs ys zs : List Rc} (i : Nat) (hi : h[i]? = some (.blk g e (rcs xs))) (ht : P.underlying t = some (.slice e)) (hz : (P.info? e).map (·.size) = some 4)
    (hs : Src h A 4 m c (rcs ys)) (hm : n + m ≤ k) (hl : k ≤ xs.length) (hc : xs.take n ++ ys ++ xs.drop (n + m) = zs)
    (ho : o.op = .call { callee := .builtin .append, args := #[x, y], argTypes := #[t, t] }) (hx : ev s x = some (.slice (some ⟨g, 0, none⟩) n k)) (hy : ev s y = some (.slice A m c)) (hd : o.dst = some d) (hN : Nat.blt d X.N = true)
    (hh : Tr X ((d, .slice (some ⟨g, 0, none⟩) (n + m) k) :: s) (.blk g e (rcs zs) :: h.eraseIdx i) K) : Tr X s h (Op P o K K0) := fun a w st => by
  have h1 := rcs_one ys
  have hcs : (rcs xs).take (n * 4) ++ rcs ys ++ (rcs xs).drop (n * 4 + m * 4) = rcs zs := by rw [rcs_take, ← Nat.add_mul, rcs_drop, ← rcs_app, ← rcs_app, hc]
  have hb : w.heap[g]? = some (.cells (rcs xs).toArray e (0, 0)) := st.ok _ (List.mem_of_getElem? hi)
  have hrd := (hs w st.ok).1
  have hnl : (rcs ys).length = m * 4 := hrd.len
  have hyl : ys.length = m := by rw [rcs_len] at hnl; omega
  obtain ⟨ti, hi1, hi2⟩ := Option.map_eq_some_iff.1 hz
  cases A with
  | none =>
    have h0 := hrd.isn rfl; have h2 := hrd.le
    obtain rfl : m = 0 := by omega
    obtain rfl : c = 0 := h0
    obtain rfl : ys = [] := List.eq_nil_of_length_eq_zero hyl
    have hc2 : xs = zs := by rw [← hc]; simp
    subst hc2
    have hr : (execOp a.eval o).run P w = .ok (.value (.slice (some ⟨g, 0, none⟩) (n + 0) k)) w := by
      have hkn : n ≤ k := by omega
      unfold execOp
      rw [ho]
      simp [resolve, invoke, builtin, st.ag _ _ hx, st.ag _ _ hy, Builtin.append_, run_underlying ht, sizeOf, typeInfo, hi1, Builtin.lenOf, Builtin.firstCells, hkn, hi2, storeCells, rcs]
    refine op_val hr ?_
    rw [hd]
    exact hh _ _ ((st.perm (perm_erase h i _ hi)).put (Nat.blt_eq.mp hN) _)
  | some ad =>
  have hr : (execOp a.eval o).run P w = .ok (.value (.slice (some ⟨g, 0, none⟩) (n + m) k)) (w.setRow g (rcs zs).toArray) := by
    have := run_append_room (P := P) w t o.type e ti ht hi1 g n k (rcs xs).toArray hb ad m c (rcs ys) (by rw [hi2]; exact hnl) (fun j u hu => hrd.cells ad rfl j u hu) h1 hm (by rw [hi2, hnl]; simp [rcs_len]; omega)
    rw [hi2, hnl] at this
    simp only at this
    rw [hcs] at this
    unfold execOp
    rw [ho]
    simp [resolve, invoke, builtin, st.ag _ _ hx, st.ag _ _ hy, this]
  refine op_val hr ?_
  rw [hd]
  refine hh _ _ (st.swapv [.blk g e (rcs xs)] (h.eraseIdx i) [.blk g e (rcs zs)] (perm_erase h i _ hi) hN _ ⟨⟨rfl, rfl, rfl, by simp⟩, fun k _ hk => setRow_other w g k _ (fun e => hk (by simp [HA.ids, e]))⟩ ?_ ?_ ?_ ?_)
  · intro x hx; rw [List.mem_singleton] at hx; subst hx; exact setRow_heap w g _ _ e _ hb
  · intro x hx k hk; rw [List.mem_singleton] at hx; subst hx; exact .inl (by simpa [HA.ids, HA.frs] using hk)
  · simp [HA.ids]
  · intro x hx r hr; rw [List.mem_singleton] at hx; subst hx; cases hr
end
end Go.Proofs.Ytlplpmkdebemnaa.Fw
