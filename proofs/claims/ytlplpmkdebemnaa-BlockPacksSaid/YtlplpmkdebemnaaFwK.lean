/- A walk by facts: blocks with room, and lists of slices. No conditions. -/
import Derived.Test.YtlplpmkdebemnaaFwS
namespace Go.Proofs.Ytlplpmkdebemnaa.Fw
set_option linter.unusedVariables false
set_option linter.unusedSimpArgs false
open Go.RowKit Bv
variable {X : Cx} {s : List (Nat × Value)} {h : List HA} {P : Program} {o : Oper} {K K0 : Jd}
/-- append into a block's room. -/
theorem op_app_room {d : Nat} {t e : TypeId} {x y : Operand} {g n m c k : Nat} {A : Option Addr} {cs news cs' : List Value} (i : Nat) (hi : h[i]? = some (.blk g e cs)) (ht : P.underlying t = some (.slice e)) (hz : (P.info? e).map (·.size) = some 1)
    (hs : Src h A 1 m c news) (h1 : ∀ u ∈ news, u.oneCell' = true) (hm : n + m ≤ k) (hl : k ≤ cs.length) (hc : cs.take n ++ news ++ cs.drop (n + m) = cs')
    (ho : o.op = .call { callee := .builtin .append, args := #[x, y], argTypes := #[t, t] }) (hx : ev s x = some (.slice (some ⟨g, 0, none⟩) n k)) (hy : ev s y = some (.slice A m c)) (hd : o.dst = some d) (hN : Nat.blt d X.N = true)
    (hh : Tr X ((d, .slice (some ⟨g, 0, none⟩) (n + m) k) :: s) (.blk g e cs' :: h.eraseIdx i) K) : Tr X s h (Op P o K K0) := fun a w st => by
  have hb : w.heap[g]? = some (.cells cs.toArray e (0, 0)) := st.ok _ (List.mem_of_getElem? hi)
  have hrd := (hs w st.ok).1
  have hnl : news.length = m := by have := hrd.len; simpa using this
  obtain ⟨ti, hi1, hi2⟩ := Option.map_eq_some_iff.1 hz
  cases A with
  | none =>
    have h0 := hrd.isn rfl; have h2 := hrd.le
    obtain rfl : m = 0 := by omega
    obtain rfl : c = 0 := h0
    obtain rfl : news = [] := List.eq_nil_of_length_eq_zero hnl
    have hc2 : cs = cs' := by rw [← hc]; simp
    subst hc2
    have hr : (execOp a.eval o).run P w = .ok (.value (.slice (some ⟨g, 0, none⟩) (n + 0) k)) w := by
      have hkn : n ≤ k := by omega
      unfold execOp
      rw [ho]
      simp [resolve, invoke, builtin, st.ag _ _ hx, st.ag _ _ hy, Builtin.append_, run_underlying ht, sizeOf, typeInfo, hi1, Builtin.lenOf, Builtin.firstCells, hkn, hi2, storeCells]
    refine op_val hr ?_
    rw [hd]
    exact hh _ _ ((st.perm (perm_erase h i _ hi)).put (Nat.blt_eq.mp hN) _)
  | some ad =>
  have hr : (execOp a.eval o).run P w = .ok (.value (.slice (some ⟨g, 0, none⟩) (n + m) k)) (w.setRow g cs'.toArray) := by
    have := run_append_room (P := P) w t o.type e ti ht hi1 g n k cs.toArray hb ad m c news (by rw [hi2]; simpa using hnl) (fun j u hu => hrd.cells ad rfl j u hu) h1 hm (by rw [hi2, hnl]; simp; omega)
    rw [hi2, hnl, Nat.mul_one] at this
    simp only at this
    rw [hc] at this
    unfold execOp
    rw [ho]
    simp [resolve, invoke, builtin, st.ag _ _ hx, st.ag _ _ hy, this]
  refine op_val hr ?_
  rw [hd]
  refine hh _ _ (st.swapv [.blk g e cs] (h.eraseIdx i) [.blk g e cs'] (perm_erase h i _ hi) hN _ ⟨⟨rfl, rfl, rfl, by simp⟩, fun k _ hk => setRow_other w g k _ (fun e => hk (by simp [HA.ids, e]))⟩ ?_ ?_ ?_ ?_)
  · intro x hx; rw [List.mem_singleton] at hx; subst hx; exact setRow_heap w g _ _ e _ hb
  · intro x hx k hk; rw [List.mem_singleton] at hx; subst hx; exact .inl (by simpa [HA.ids, HA.frs] using hk)
  · simp [HA.ids]
  · intro x hx r hr; rw [List.mem_singleton] at hx; subst hx; cases hr
/-- s[:k], up to the capacity. -/
theorem pr_slup {t e : TypeId} {x hi : Operand} {A : Option Addr} {n c u z : Nat} {k2 : IntKind} (huc : u ≤ c) (ht : P.underlying t = some (.slice e)) (hz : (P.info? e).map (·.size) = some z)
    (ho : o.op = .slice t x none (some hi) none) (hx : ev s x = some (.slice A n c)) (hu : ev s hi = some (.int k2 (u : Int))) : Pr P s h o (.slice A u c) := fun e' he w hw w' => by
  have g1 : (0 : Int) ≤ (u : Int) ∧ (u : Int) ≤ c := by omega
  have g5 : ¬ c < u := by omega
  unfold execOp; rw [ho]
  cases A with
  | none => simp [he _ _ hx, he _ _ hu, Instr.sliceAt, run_underlying ht, Instr.slice, Instr.sliceBounds, Instr.sliceBound, asIntOf, g1, huc, g5, run_sizeOf hz]
  | some ad => simp [he _ _ hx, he _ _ hu, Instr.sliceAt, run_underlying ht, Instr.slice, Instr.sliceBounds, Instr.sliceBound, asIntOf, g1, huc, g5, run_sizeOf hz, add0]
/-- s[:k:k], up to the capacity. -/
theorem pr_slup3 {t e : TypeId} {x hi mx : Operand} {A : Option Addr} {n c u z : Nat} {k2 k3 : IntKind} (huc : u ≤ c) (ht : P.underlying t = some (.slice e)) (hz : (P.info? e).map (·.size) = some z)
    (ho : o.op = .slice t x none (some hi) (some mx)) (hx : ev s x = some (.slice A n c)) (hu : ev s hi = some (.int k2 (u : Int))) (hm : ev s mx = some (.int k3 (u : Int))) : Pr P s h o (.slice A u u) := fun e' he w hw w' => by
  have g1 : (0 : Int) ≤ (u : Int) ∧ (u : Int) ≤ c := by omega
  have g5 : ¬ c < u := by omega
  unfold execOp; rw [ho]
  cases A with
  | none => simp [he _ _ hx, he _ _ hu, he _ _ hm, Instr.sliceAt, run_underlying ht, Instr.slice, Instr.sliceBounds, Instr.sliceBound, asIntOf, g1, huc, g5, run_sizeOf hz]
  | some ad => simp [he _ _ hx, he _ _ hu, he _ _ hm, Instr.sliceAt, run_underlying ht, Instr.slice, Instr.sliceBounds, Instr.sliceBound, asIntOf, g1, huc, g5, run_sizeOf hz, add0]
/-- s[:]. -/
theorem pr_slall {t e : TypeId} {x : Operand} {A : Option Addr} {n c z : Nat} (hnc : n ≤ c) (ht : P.underlying t = some (.slice e)) (hz : (P.info? e).map (·.size) = some z)
    (ho : o.op = .slice t x none none none) (hx : ev s x = some (.slice A n c)) : Pr P s h o (.slice A n c) := fun e' he w hw w' => by
  have g5 : ¬ c < n := by omega
  have g1 : (n : Int) ≤ c := by omega
  unfold execOp; rw [ho]
  cases A with
  | none => simp [he _ _ hx, Instr.sliceAt, run_underlying ht, Instr.slice, Instr.sliceBounds, Instr.sliceBound, asIntOf, hnc, g1, g5, run_sizeOf hz]
  | some ad => simp [he _ _ hx, Instr.sliceAt, run_underlying ht, Instr.slice, Instr.sliceBounds, Instr.sliceBound, asIntOf, hnc, g1, g5, run_sizeOf hz, add0]
/-- s[l:]. -/
theorem pr_sllo {t e : TypeId} {x lo : Operand} {g m m' n c l : Nat} {k2 : IntKind} (hln : l ≤ n ∧ n ≤ c) (hl0 : l < c ∨ l = 0) (hm : m + l = m') (ht : P.underlying t = some (.slice e)) (hz : (P.info? e).map (·.size) = some 1)
    (ho : o.op = .slice t x (some lo) none none) (hx : ev s x = some (.slice (some ⟨g, m, none⟩) n c)) (hu : ev s lo = some (.int k2 (l : Int))) : Pr P s h o (.slice (some ⟨g, m', none⟩) (n - l) (c - l)) := fun e' he w hw w' => by
  subst hm
  have g1 : (0 : Int) ≤ (l : Int) ∧ (l : Int) ≤ n := by omega
  have g2 : (n : Int) ≤ c := by omega
  have g3 : ¬ c < n := by omega
  have g4 : ¬ n < l := by omega
  have g5 : n ≤ c := hln.2
  have g6 : l ≤ n := hln.1
  unfold execOp; rw [ho]
  by_cases hcl : c = l
  · obtain rfl : l = 0 := by omega
    subst hcl
    obtain rfl : n = 0 := by omega
    simp [he _ _ hx, he _ _ hu, Instr.sliceAt, run_underlying ht, Instr.slice, Instr.sliceBounds, Instr.sliceBound, asIntOf, run_sizeOf hz, add0]
  · have g7 : ¬ c - l = 0 := by omega
    have g8 : l < c := by omega
    simp [he _ _ hx, he _ _ hu, Instr.sliceAt, run_underlying ht, Instr.slice, Instr.sliceBounds, Instr.sliceBound, asIntOf, g1, g2, g3, g4, g5, g6, g7, g8, hcl, run_sizeOf hz, Addr.add]
/-- The beginning of a row of the call's own that nobody writes any more. -/
theorem T_pre {J : Jd} (i : Nat) {A : Option Addr} {z n c : Nat} {cs : List Value} (m : Nat) (cs' : List Value) (hi : h[i]? = some (.old A z n c cs)) (hm : m ≤ n) (hc : cs.take (m * z) = cs') (hh : Tr X s (.old A z m c cs' :: h) J) : Tr X s h J := fun a w st => by
  have hmem := List.mem_of_getElem? hi
  have hx := st.ok _ hmem
  have hr : RdV w A z m c cs' := by
    subst hc
    have hle : m * z ≤ n * z := Nat.mul_le_mul_right z hm
    refine ⟨by rw [List.length_take, hx.1.len]; omega, Nat.le_trans hm hx.1.le, hx.1.most, hx.1.isn, fun ad e j v hj => ?_⟩
    rw [List.getElem?_take] at hj
    split at hj
    · exact hx.1.cells ad e j v hj
    · cases hj
  refine hh a w ⟨st.sz, st.df, st.sl, st.kp, ?_, st.ll, ?_, ?_, ?_, ?_, ?_, ⟨st.rk.1, ?_⟩⟩
  · intro x hx'
    rcases List.mem_cons.1 hx' with rfl | hx'
    · exact ⟨hr, hx.2⟩
    · exact st.ok x hx'
  · intro x hx' k hk
    rcases List.mem_cons.1 hx' with rfl | hx'
    · exact st.fr _ hmem k hk
    · exact st.fr x hx' k hk
  · simpa [HA.ids] using st.nd
  · intro x hx' y hy r hrr
    rcases List.mem_cons.1 hy with rfl | hy
    · simp [HA.ids]
    · rcases List.mem_cons.1 hx' with rfl | hx'
      · exact st.dj _ hmem y hy r hrr
      · exact st.dj x hx' y hy r hrr
  · intro x hx' o ho y hy hyb hor
    rcases List.mem_cons.1 hx' with rfl | hx'
    · cases ho
    · rcases List.mem_cons.1 hy with rfl | hy
      · exact st.iv x hx' o ho _ hmem rfl hor
      · exact st.iv x hx' o ho y hy hyb hor
  · intro x hx' B hB
    rcases List.mem_cons.1 hx' with rfl | hx'
    · cases hB
    · exact st.ib x hx' B hB
  · intro x hx' r hrr
    rcases List.mem_cons.1 hx' with rfl | hx'
    · exact st.rk.2 _ hmem r hrr
    · exact st.rk.2 x hx' r hrr
/-- The same, with less room. -/
theorem T_prec {J : Jd} (i : Nat) {A : Option Addr} {z n c : Nat} {cs : List Value} (m c2 : Nat) (cs' : List Value) (hi : h[i]? = some (.old A z n c cs)) (hm : m ≤ n) (hm2 : m ≤ c2) (hc2 : c2 ≤ c) (h0 : 0 < c2) (hc : cs.take (m * z) = cs') (hh : Tr X s (.old A z m c2 cs' :: h) J) : Tr X s h J := fun a w st => by
  have hmem := List.mem_of_getElem? hi
  have hx := st.ok _ hmem
  have hsub : ∀ r, r ∈ rid A c2 → r ∈ rid A c := fun r hr => mem_rid.2 ⟨by omega, (mem_rid.1 hr).2⟩
  have hr : RdV w A z m c2 cs' := by
    subst hc
    have hle : m * z ≤ n * z := Nat.mul_le_mul_right z hm
    refine ⟨by rw [List.length_take, hx.1.len]; omega, hm2, Nat.le_trans hc2 hx.1.most, fun e => absurd (hx.1.isn e) (by omega), fun ad e j v hj => ?_⟩
    rw [List.getElem?_take] at hj
    split at hj
    · exact hx.1.cells ad e j v hj
    · cases hj
  refine hh a w ⟨st.sz, st.df, st.sl, st.kp, ?_, st.ll, ?_, ?_, ?_, ?_, ?_, ⟨st.rk.1, ?_⟩⟩
  · intro x hx'
    rcases List.mem_cons.1 hx' with rfl | hx'
    · exact ⟨hr, fun ad e _ => hx.2 ad e (by omega)⟩
    · exact st.ok x hx'
  · intro x hx' k hk
    rcases List.mem_cons.1 hx' with rfl | hx'
    · exact st.fr _ hmem k (hsub k hk)
    · exact st.fr x hx' k hk
  · simpa [HA.ids] using st.nd
  · intro x hx' y hy r hrr
    rcases List.mem_cons.1 hy with rfl | hy
    · simp [HA.ids]
    · rcases List.mem_cons.1 hx' with rfl | hx'
      · exact st.dj _ hmem y hy r (hsub r hrr)
      · exact st.dj x hx' y hy r hrr
  · intro x hx' o ho y hy hyb hor
    rcases List.mem_cons.1 hx' with rfl | hx'
    · cases ho
    · rcases List.mem_cons.1 hy with rfl | hy
      · exact st.iv x hx' o ho _ hmem rfl (hsub o hor)
      · exact st.iv x hx' o ho y hy hyb hor
  · intro x hx' B hB
    rcases List.mem_cons.1 hx' with rfl | hx'
    · cases hB
    · exact st.ib x hx' B hB
  · intro x hx' r hrr
    rcases List.mem_cons.1 hx' with rfl | hx'
    · exact st.rk.2 _ hmem r (hsub r hrr)
    · exact st.rk.2 x hx' r hrr
/-- One more word that is read. -/
theorem T_rdadd {J : Jd} (x : HA) (h1 : x.ids = []) (h2 : x.frs = []) (h3 : x.os = []) (h4 : x.bs = none) (hok : ∀ w, HOK h w → x.ok w) (hr : ∀ r ∈ x.rids, ∃ y ∈ h, y.bs = none ∧ r ∈ y.rids) (hh : Tr X s (x :: h) J) : Tr X s h J := fun a w st => by
  refine hh a w ⟨st.sz, st.df, st.sl, st.kp, ?_, st.ll, ?_, ?_, ?_, ?_, ?_, ⟨st.rk.1, ?_⟩⟩
  · intro y hy
    rcases List.mem_cons.1 hy with hyx | hy2
    · rw [hyx]; exact hok w st.ok
    · exact st.ok y hy2
  · intro y hy k hk
    rcases List.mem_cons.1 hy with hyx | hy2
    · rw [hyx, h2] at hk; cases hk
    · exact st.fr y hy2 k hk
  · simpa [h1] using st.nd
  · intro y hy z hz r hrr
    rcases List.mem_cons.1 hz with hzx | hz2
    · simp [hzx, h1]
    · rcases List.mem_cons.1 hy with hyx | hy2
      · obtain ⟨y', hy', _, hr'⟩ := hr r (hyx ▸ hrr)
        exact st.dj y' hy' z hz2 r hr'
      · exact st.dj y hy2 z hz2 r hrr
  · intro y hy o ho z hz hzb hor
    rcases List.mem_cons.1 hy with hyx | hy2
    · rw [hyx, h3] at ho; cases ho
    · rcases List.mem_cons.1 hz with hzx | hz2
      · obtain ⟨y', hy', hb', hr'⟩ := hr o (hzx ▸ hor)
        exact st.iv y hy2 o ho y' hy' hb' hr'
      · exact st.iv y hy2 o ho z hz2 hzb hor
  · intro y hy B hB
    rcases List.mem_cons.1 hy with hyx | hy2
    · rw [hyx, h4] at hB; cases hB
    · exact st.ib y hy2 B hB
  · intro y hy r hrr
    rcases List.mem_cons.1 hy with hyx | hy2
    · obtain ⟨y', hy', _, hr'⟩ := hr r (hyx ▸ hrr)
      exact st.rk.2 y' hy' r hr'
    · exact st.rk.2 y hy2 r hrr
theorem T_allnil {J : Jd} (hh : Tr X s (.all [] :: h) J) : Tr X s h J := T_rdadd (.all []) rfl rfl rfl rfl (fun w _ p hp => by cases hp) (fun r hr => by simp [HA.rids] at hr) hh
/-- A list of slices, and one more. -/
theorem T_alladd {J : Jd} (i j : Nat) {L : List Pt} {A : Option Addr} {n c : Nat} {xs : List (BitVec 8)} (hi : h[i]? = some (.all L)) (hj : h[j]? = some (.rd A 1 n c (xs.map b8))) (hh : Tr X s (.all (L ++ [⟨A, n, c, xs⟩]) :: h) J) : Tr X s h J :=
  T_rdadd (.all (L ++ [⟨A, n, c, xs⟩])) rfl rfl rfl rfl (fun w hw p hp => by
    rcases List.mem_append.1 hp with hp | hp
    · exact (hw _ (List.mem_of_getElem? hi) : (HA.all L).ok w) p hp
    · rw [List.mem_singleton] at hp; subst hp
      exact (hw _ (List.mem_of_getElem? hj) : (HA.rd A 1 n c (xs.map b8)).ok w))
    (fun r hr => by
      simp only [HA.rids, List.flatMap_append, List.flatMap_cons, List.flatMap_nil, List.append_nil] at hr
      rcases List.mem_append.1 hr with hr | hr
      · exact ⟨_, List.mem_of_getElem? hi, rfl, hr⟩
      · exact ⟨_, List.mem_of_getElem? hj, rfl, hr⟩) hh
def bi (x : BitVec 64) : Value := .int .i64 (i64 x)
theorem geti {xs : List (BitVec 64)} {m : Nat} (h : m < xs.length) : (xs.map bi)[m]? = some (bi (ath xs m)) := by rw [List.getElem?_map, List.getElem?_eq_getElem h, ath_get xs m h]; rfl
theorem zw_i64 {z : Int} (h : -9223372036854775808 ≤ z ∧ z ≤ 9223372036854775807) : IntKind.i64.wrap z = z := by rw [IntKind.wrap_i64]; omega
theorem all_nil (w : World) : (HA.all []).ok w := by intro p hp; cases hp
theorem all_cons {w : World} {A : Option Addr} {n c : Nat} {xs : List (BitVec 8)} {L : List Pt} (h : (HA.rd A 1 n c (xs.map b8)).ok w) (t : (HA.all L).ok w) : (HA.all (⟨A, n, c, xs⟩ :: L)).ok w := by
  intro p hp
  rcases List.mem_cons.1 hp with rfl | hp
  · exact h
  · exact t p hp
theorem all_app {w : World} {L M : List Pt} (h : (HA.all L).ok w) (t : (HA.all M).ok w) : (HA.all (L ++ M)).ok w := by
  intro p hp
  rcases List.mem_append.1 hp with hp | hp
  · exact h p hp
  · exact t p hp
end Go.Proofs.Ytlplpmkdebemnaa.Fw
