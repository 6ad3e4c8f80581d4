/- append of zeros, and copy, by facts. No conditions. -/
import Derived.Test.YtlplpmkdebemnaaFwN
namespace Go.Proofs.Ytlplpmkdebemnaa.Fw
set_option linter.unusedVariables false
set_option linter.unusedSimpArgs false
open Go.RowKit Bv
theorem zeroCells_list (z : Value) (n : Nat) (hz : z.cells = #[z]) : Builtin.zeroCells z.cells n = (List.replicate n z).toArray := by
  rw [hz]
  apply Array.ext
  · simp [Builtin.zeroCells]
  · intro i h1 h2; simp [Builtin.zeroCells, Nat.mod_one]
section
variable {P : Program} {X : Cx} {s : List (Nat × Value)} {h : List HA} {a : Act} {w : World} {o : Oper} {K K0 : Jd} {v : Value}
/-- append of so many zeros. -/
theorem run_app0 {t ti ty e : TypeId} {ik : IntKind} {i : TypeInfo} {z : Value} {bytes : Nat} (w : World) (ht : P.underlying t = some (.slice e)) (hti : P.underlying ti = some (.int ik)) (hi : P.info? e = some i) (hz : i.zero = some z)
    (hsize : i.size = 1) (hby : i.bytes = bytes) (hzs : z.cells = #[z]) (hz1 : z.oneCell' = true) {v : Value} {n : Nat} {xs : List Value} (hown : w.ownsRow 0 e 1 v n xs) (m : Nat)
    (h63 : n + m ≤ 9223372036854775807) (hbytes : (n + m) * bytes ≤ 140737488355328) :
    ∃ A' c' w', (Builtin.append_ #[t, ti] ty #[v, .int .i64 (m : Int)]).run P w = .ok (.slice A' (n + m) c') w' ∧ w'.ownsRow 0 e 1 (.slice A' (n + m) c') (n + m) (xs ++ List.replicate m z) ∧ w.grownBy w' v.ownBlock ∧ (∀ k, (Value.slice A' (n + m) c').ownBlock = some k → v.ownBlock = some k ∨ w.heap.size ≤ k) := by
  subst hby
  have hw : IntKind.i64.wrap (m : Int) = (m : Int) := by rw [IntKind.wrap_i64]; omega
  have hm0 : ¬ (m : Int) < 0 := by omega
  have hw0 : IntKind.i64.wrap (0 : Int) = 0 := by rw [IntKind.wrap_i64]; omega
  have hmb : ¬ (281474976710656 < (m : Int) * (i.bytes : Int)) := by
    have h1 : m * i.bytes ≤ (n + m) * i.bytes := Nat.mul_le_mul_right _ (by omega)
    have h2 : (m : Int) * (i.bytes : Int) = ((m * i.bytes : Nat) : Int) := by simp
    rw [h2]; omega
  have hzl : ∀ u ∈ List.replicate m z, u.oneCell' = true := fun u hu => by rw [(List.mem_replicate.1 hu).2]; exact hz1
  rcases hown.2 with ⟨rfl, rfl⟩ | ⟨g, cap, cur, rfl, -, hgb, hnc, hcm, hcs, htake⟩
  · have hx : xs = [] := List.eq_nil_of_length_eq_zero (by simpa using hown.1)
    subst hx
    by_cases hm : m = 0
    · subst hm
      refine ⟨none, 0, w, ?_, World.ownsRow_nil w 0 e 1, World.grownBy.refl _ _, (fun k hk => by cases hk)⟩
      simp [Builtin.append_, run_underlying ht, run_underlying hti, sizeOf, typeInfo, hi, hsize, asInt, asIntOf, hw0]
    · have hn : ¬ m ≤ 0 := by omega
      have h63' : ¬ (9223372036854775807 < (m : Int)) := by omega
      have h48 : ¬ (281474976710656 < Builtin.nextslicecap m 0 * i.bytes) := by
        have := nextslicecap_zero (need := m) (by omega); rw [this]
        rw [Nat.zero_add] at hbytes
        omega
      refine ⟨some ⟨w.heap.size, 0, none⟩, grownCap w m 0 e, w.drew.alloc (.cells ((List.replicate m z).toArray ++ Builtin.zeroCells z.cells (grownCap w m 0 e - m)) e), ?_, ?_, ⟨rfl, rfl, rfl, by simp, fun k hk _ => Below.heap_alloc w.drew _ k hk⟩, fun k hk => .inr (by simp [Value.ownBlock] at hk; omega)⟩
      · simp [Builtin.append_, run_underlying ht, run_underlying hti, sizeOf, typeInfo, zeroValue, hi, hz, hsize, asInt, asIntOf, hw, hm0, hmb, hm, hn, h63', h48, Builtin.firstCells, Question.forced, newRow, grownCap, zeroCells_list z _ hzs]
      · have hge := grownCap_ge w m 0 e
        have hcm := grownCap_le_maxLen w m 0 e (by unfold maxLen; omega)
        refine ⟨by simp, .inr ⟨w.heap.size, _, _, by rw [Nat.zero_add], Nat.zero_le _, heap_alloc_new w.drew _, by omega, hcm, ?_, ?_⟩⟩
        · rw [zeroCells_list z _ hzs]; simp; omega
        · rw [zeroCells_list z _ hzs]; simp
  · by_cases hroom : n + m ≤ cap
    · have hst := run_storeCells_at (P := P) g n e (List.replicate m z) 0 cur w hgb (by simp; omega) hzl
      simp only [Nat.add_zero] at hst
      refine ⟨some ⟨g, 0, none⟩, cap, w.setRow g (cur.toList.take n ++ List.replicate m z ++ cur.toList.drop (n + (List.replicate m z).length)).toArray, ?_, ?_, ⟨rfl, rfl, rfl, by simp, fun k _ hk => setRow_other w g k _ (fun e => hk (by simp [Value.ownBlock, e]))⟩, fun k hk => .inl hk⟩
      · by_cases hm : m = 0
        · subst hm
          have hst0 : (storeCells (⟨g, n, none⟩ : Addr) []).run P w = .ok () (w.setRow g (cur.toList.take n ++ List.replicate 0 z ++ cur.toList.drop (n + (List.replicate 0 z).length)).toArray) := hst
          have hcn : ¬ cap < n := by omega
          have hcn2 : n ≤ cap := by omega
          simp [Addr.add_lit] at hst0
          simp [Builtin.append_, run_underlying ht, run_underlying hti, sizeOf, typeInfo, zeroValue, hi, hz, hsize, asInt, asIntOf, hw0, hcn, hcn2, Addr.add_lit, hst0]
        · simp [Builtin.append_, run_underlying ht, run_underlying hti, sizeOf, typeInfo, zeroValue, hi, hz, hsize, asInt, asIntOf, hw, hm0, hmb, hm, hroom, zeroCells_list z _ hzs, Addr.add_lit, hst]
      · refine ⟨?_, .inr ⟨g, cap, _, rfl, Nat.zero_le _, setRow_heap w g cur _ e _ hgb, hroom, hcm, ?_, ?_⟩⟩
        · have := hown.1; simp at this ⊢; omega
        · simp; omega
        · have hl : xs.length = n := by simpa using hown.1
          have hx : cur.toList.take n = xs := by simpa using htake
          simp only [List.toList_toArray, hx]
          rw [List.append_assoc, Nat.mul_one, show n + m = (xs ++ List.replicate m z).length by simp [hl], ← List.append_assoc]
          exact List.take_left
    · have hn : ¬ m = 0 := by omega
      have h63' : ¬ (9223372036854775807 < ((n : Int) + (m : Int))) := by omega
      have h48 : ¬ (281474976710656 < Builtin.nextslicecap (n + m) cap * i.bytes) := by
        have := growslice_fits (bytes := i.bytes) (need := n + m) (old := cap) (by omega) hbytes; omega
      have hf := run_firstCells_some (P := P) w.drew 1 n ⟨g, 0, none⟩ n cap xs hown.1 (by simpa using hown.cells (g := g) rfl)
      refine ⟨some ⟨w.heap.size, 0, none⟩, grownCap w (n + m) cap e, w.drew.alloc (.cells (xs.toArray ++ (List.replicate m z).toArray ++ Builtin.zeroCells z.cells (grownCap w (n + m) cap e - (n + m))) e), ?_, ?_, ⟨rfl, rfl, rfl, by simp, fun k hk _ => Below.heap_alloc w.drew _ k hk⟩, fun k hk => .inr (by simp [Value.ownBlock] at hk; omega)⟩
      · simp [Builtin.append_, run_underlying ht, run_underlying hti, sizeOf, typeInfo, zeroValue, hi, hz, hsize, asInt, asIntOf, hw, hm0, hmb, hn, hroom, h63', h48, Question.forced, newRow, grownCap, zeroCells_list z _ hzs, hf]
      · have hge := grownCap_ge w (n + m) cap e
        have hcm := grownCap_le_maxLen w (n + m) cap e (by unfold maxLen; omega)
        have hl : xs.length = n := by simpa using hown.1
        refine ⟨by simp [hl], .inr ⟨w.heap.size, _, _, rfl, Nat.zero_le _, heap_alloc_new w.drew _, hge, hcm, ?_, ?_⟩⟩
        · rw [zeroCells_list z _ hzs]; simp [hl]; omega
        · rw [zeroCells_list z _ hzs]
          simp only [Array.toList_append, List.toList_toArray, Nat.mul_one]
          rw [show n + m = (xs ++ List.replicate m z).length by simp [hl]]
          exact List.take_left
theorem op_append0 {d : Nat} {t ti e : TypeId} {ik : IntKind} {x y : Operand} {z : Value} {bytes n m : Nat} {xs : List Value} (i : Nat) (hi : h[i]? = some (.row v e 1 n xs)) (ht : P.underlying t = some (.slice e)) (hti : P.underlying ti = some (.int ik)) (hin : (P.info? e).map (fun i => (i.zero, i.size, i.bytes)) = some (some z, 1, bytes)) (hzs : z.cells = #[z]) (hz1 : z.oneCell' = true)
    (h63 : n + m ≤ 9223372036854775807) (hbytes : (n + m) * bytes ≤ 140737488355328)
    (ho : o.op = .call { callee := .builtin .append, args := #[x, y], argTypes := #[t, ti] }) (hx : ev s x = some v) (hy : ev s y = some (.int .i64 (m : Int))) (hd : o.dst = some d) (hN : Nat.blt d X.N = true)
    (hh : ∀ A' c', Tr X ((d, .slice A' (n + m) c') :: s) (.row (.slice A' (n + m) c') e 1 (n + m) (xs ++ List.replicate m z) :: h.eraseIdx i) K) : Tr X s h (Op P o K K0) := fun a w st => by
  obtain ⟨tinf, hi1, hi2⟩ := Option.map_eq_some_iff.1 hin
  simp only [Prod.mk.injEq] at hi2
  obtain ⟨hz, hsize, hby⟩ := hi2
  have hown : w.ownsRow 0 e 1 v n xs := st.ok _ (List.mem_of_getElem? hi)
  obtain ⟨A', c', w', hr, ho', hg', hb'⟩ := run_app0 (P := P) (ty := o.type) w ht hti hi1 hz hsize hby hzs hz1 hown m h63 hbytes
  have hr' : (execOp a.eval o).run P w = .ok (.value (.slice A' (n + m) c')) w' := by
    unfold execOp
    rw [ho]
    simp [resolve, invoke, builtin, st.ag _ _ hx, st.ag _ _ hy, hr]
  refine op_val hr' ?_
  rw [hd]
  refine hh A' c' _ _ (st.swapv [.row v e 1 n xs] (h.eraseIdx i) [.row (.slice A' (n + m) c') e 1 (n + m) (xs ++ List.replicate m z)] (perm_erase h i _ hi) hN _ ?_ ?_ ?_ ?_ ?_)
  · have := Keep.of_grown hg'; simpa [HA.ids] using this
  · intro x hx; rw [List.mem_singleton] at hx; subst hx; exact ho'
  · intro x hx k hk; rw [List.mem_singleton] at hx; subst hx
    have := hb' k (by simpa [HA.frs] using hk)
    exact this.imp (fun h => by simp [HA.ids, h]) id
  · simp only [List.flatMap_cons, List.flatMap_nil, List.append_nil, HA.ids]
    cases (Value.slice A' (n + m) c').ownBlock <;> simp
  · intro x hx r hr; rw [List.mem_singleton] at hx; subst hx; cases hr
/-- copy into a block of the call's own. -/
theorem op_copy {d : Nat} {t t2 e e2 : TypeId} {x y : Operand} {g m n c k c2 : Nat} {A : Option Addr} {cs news cs' : List Value} (i : Nat) (hi : h[i]? = some (.blk g e2 cs)) (ht : P.underlying t = some (.slice e)) (hz : (P.info? e).map (·.size) = some 1)
    (hs : Src h A 1 k c2 news) (h1 : ∀ u ∈ news, u.oneCell' = true) (hm : m + min k n ≤ cs.length) (hc : cs.take m ++ news.take (min k n) ++ cs.drop (m + (news.take (min k n)).length) = cs')
    (ho : o.op = .call { callee := .builtin .copy, args := #[x, y], argTypes := #[t, t2] }) (hx : ev s x = some (.slice (some ⟨g, m, none⟩) n c)) (hy : ev s y = some (.slice A k c2)) (hd : o.dst = some d) (hN : Nat.blt d X.N = true)
    (hh : Tr X ((d, .int .i64 ((min k n : Nat) : Int)) :: s) (.blk g e2 cs' :: h.eraseIdx i) K) : Tr X s h (Op P o K K0) := fun a w st => by
  have hb : w.heap[g]? = some (.cells cs.toArray e2 (0, 0)) := st.ok _ (List.mem_of_getElem? hi)
  have hrd := (hs w st.ok).1
  have hl : (news.take (min k n)).length = min k n := by have := hrd.len; simp; omega
  have hfirst : (Builtin.firstCells 1 (min k n) (.slice A k c2)).run P w = .ok (news.take (min k n)).toArray w := by
    cases A with
    | none =>
      have h0 := hrd.isn rfl; have h2 := hrd.le; have h3 := hrd.len
      obtain rfl : k = 0 := by omega
      simp [Builtin.firstCells]
    | some ad =>
      have := run_firstCells_some (P := P) w 1 (min k n) ad k c2 (news.take (min k n)) (by simpa using hl) (fun j u hu => hrd.cells ad rfl j u (by rw [List.getElem?_take] at hu; split at hu; exact hu; cases hu))
      exact this
  have hst := run_storeCells_at (P := P) g m e2 (news.take (min k n)) 0 cs.toArray w hb (by simp only [Nat.add_zero, hl]; simpa using hm) (fun u hu => h1 u (List.mem_of_mem_take hu))
  simp only [Nat.add_zero] at hst
  have hr : (execOp a.eval o).run P w = .ok (.value (.int .i64 ((min k n : Nat) : Int))) (w.setRow g cs'.toArray) := by
    unfold execOp; rw [ho]
    have hmin : Nat.min k n = min k n := rfl
    simp only [resolve, invoke, builtin, Sem.run_bind, Sem.run_pure, Result.andThen_ok, List.map_toArray, List.map_cons, List.map_nil, st.ag _ _ hx, st.ag _ _ hy]
    simp only [Builtin.copy_, List.getElem?_toArray, List.getElem?_cons_zero, List.getElem?_cons_succ, Sem.run_bind, run_underlying ht, Result.andThen_ok, Builtin.lenOf, Sem.run_pure, run_sizeOf hz, hmin, hfirst, hst]
    subst hc
    simp [goInt]
  refine op_val hr ?_
  rw [hd]
  refine hh _ _ (st.swapv [.blk g e2 cs] (h.eraseIdx i) [.blk g e2 cs'] (perm_erase h i _ hi) hN _ ⟨⟨rfl, rfl, rfl, by simp⟩, fun k _ hk => setRow_other w g k _ (fun e => hk (by simp [HA.ids, e]))⟩ ?_ ?_ ?_ ?_)
  · intro x hx; rw [List.mem_singleton] at hx; subst hx; exact setRow_heap w g _ _ e2 _ hb
  · intro x hx k hk; rw [List.mem_singleton] at hx; subst hx; exact .inl (by simpa [HA.ids, HA.frs] using hk)
  · simp [HA.ids]
  · intro x hx r hr; rw [List.mem_singleton] at hx; subst hx; cases hr
end
end Go.Proofs.Ytlplpmkdebemnaa.Fw
