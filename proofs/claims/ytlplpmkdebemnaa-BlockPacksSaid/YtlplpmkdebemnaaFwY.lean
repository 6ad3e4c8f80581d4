/- A walk by facts: a row of the call's own is written. No conditions. -/
import Derived.Test.YtlplpmkdebemnaaFwX
namespace Go.Proofs.Ytlplpmkdebemnaa.Fw
set_option linter.unusedVariables false
set_option linter.unusedSimpArgs false
open Go.RowKit Bv
variable {P : Program} {X : Cx} {s : List (Nat × Value)} {h : List HA} {o : Oper} {K K0 J : Jd}
/-- A row that holds something, as the block that it stands in. -/
theorem T_unrow (i : Nat) {A : Option Addr} {e : TypeId} {z n c : Nat} {zs : List Value} (hi : h[i]? = some (.row (.slice A n c) e z n zs)) (hn : 0 < n) (hh : ∀ g cs, A = some ⟨g, 0, none⟩ → cs.length = c * z → cs.take (n * z) = zs → n ≤ c → c ≤ 9223372036854775807 → Tr X s (.blk g e cs :: h.eraseIdx i) J) : Tr X s h J := fun a w st => by
  obtain ⟨hl, h1 | ⟨g, cap, cur, hv, _, hb, hnc, hcm, hcl, hz⟩⟩ := st.ok _ (List.mem_of_getElem? hi)
  · obtain ⟨h2, h3⟩ := h1; omega
  · cases hv
    refine hh g cur.toList rfl (by simpa using hcl) hz hnc (by unfold maxLen at hcm; omega) a w ?_
    refine st.swap [.row (.slice (some ⟨g, 0, none⟩) n c) e z n zs] (h.eraseIdx i) [_] (perm_erase h i _ hi) st.sz st.df st.sl (Keep.refl _ _) ?_ ?_ ?_ ?_
    · intro x hx; rw [List.mem_singleton] at hx; subst hx
      show w.heap[g]? = _
      simpa using hb
    · intro x hx k hk; rw [List.mem_singleton] at hx; subst hx; exact .inl (by simpa [HA.ids, HA.frs, Value.ownBlock] using hk)
    · simp [HA.ids]
    · intro x hx r hr; rw [List.mem_singleton] at hx; subst hx; cases hr
theorem op_store_row {ty e : TypeId} {x y : Operand} {A : Option Addr} {n c m : Nat} {xs : List (BitVec 8)} {v : BitVec 8} (i : Nat) (hi : h[i]? = some (.row (.slice A n c) e 1 n (xs.map b8))) (hm : m < n) (hz : (P.info? ty).map (·.size) = some 1)
    (ho : o.op = .store ty x y) (hx : ev s x = some (.pointer (some ((adr A).add m)))) (hy : ev s y = some (b8 v)) (hd : o.dst = none) (hh : Tr X s (.row (.slice A n c) e 1 n ((xs.set m v).map b8) :: h.eraseIdx i) K) : Tr X s h (Op P o K K0) := by
  refine T_unrow i hi (by omega) (fun g cs hA hl ht hnc hc => ?_)
  subst hA
  have hx' : ev s x = some (.pointer (some ⟨g, m, none⟩)) := by
    rw [hx]; simp [adr, Addr.add]; omega
  refine op_store (vs := [b8 v]) (cs' := cs.set m (b8 v)) 0 rfl rfl hz (one_one rfl) (by simp; omega) (splice_set (by omega)) ho hx' hy hd ?_
  refine T_rowb 0 (zs := (xs.set m v).map b8) 1 n c rfl hnc hc (by simpa using hl) ?_ hh
  rw [Nat.mul_one] at ht ⊢
  rw [List.map_set, ← ht, List.take_set]
end Go.Proofs.Ytlplpmkdebemnaa.Fw
