/- A walk by facts: slices of records of a bool and three numbers. No conditions. -/
import Derived.Test.YtlplpmkdebemnaaFwZ
namespace Go.Proofs.Ytlplpmkdebemnaa.Fw
set_option linter.unusedVariables false
set_option linter.unusedSimpArgs false
open Go.RowKit Bv
/-- A record: whether it is none, its key, its value, where it came from. -/
structure Rc where
  d : Bool
  k : BitVec 64
  v : BitVec 64
  s : BitVec 64
deriving DecidableEq
def Rc.cs (r : Rc) : List Value := [.bool r.d, .int .i64 (i64 r.k), .int .i64 (i64 r.v), .int .i64 (i64 r.s)]
def rc0 : Rc := ⟨false, 0#64, 0#64, 0#64⟩
def rcs : List Rc → List Value
  | [] => []
  | r :: l => r.cs ++ rcs l
def rat (xs : List Rc) (j : Nat) : Rc := xs.getD j rc0
theorem rcs_app (xs ys : List Rc) : rcs (xs ++ ys) = rcs xs ++ rcs ys := by
  induction xs with
  | nil => rfl
  | cons x xs ih => rw [List.cons_append, rcs, rcs, ih, List.append_assoc]
theorem rcs_len (xs : List Rc) : (rcs xs).length = xs.length * 4 := by
  induction xs with
  | nil => rfl
  | cons x xs ih => rw [rcs, List.length_append, ih, List.length_cons]; show 4 + _ = _; omega
theorem rcs_drop (xs : List Rc) : ∀ j, (rcs xs).drop (j * 4) = rcs (xs.drop j) := by
  induction xs with
  | nil => intro j; simp [rcs]
  | cons x xs ih => intro j; cases j with
    | zero => simp
    | succ j =>
      rw [List.drop_succ_cons, ← ih j, rcs, show (j + 1) * 4 = x.cs.length + j * 4 from by show _ = 4 + _; omega, ← List.drop_drop, List.drop_left]
theorem rcs_take (xs : List Rc) : ∀ j, (rcs xs).take (j * 4) = rcs (xs.take j) := by
  induction xs with
  | nil => intro j; simp [rcs]
  | cons x xs ih => intro j; cases j with
    | zero => simp [rcs]
    | succ j =>
      rw [List.take_succ_cons, rcs, rcs, ← ih j, show (j + 1) * 4 = x.cs.length + j * 4 from by show _ = 4 + _; omega, List.take_length_add_append]
theorem rcs_at (xs : List Rc) (j : Nat) (h : j < xs.length) : ((rcs xs).drop (j * 4)).take 4 = (rat xs j).cs := by
  rw [rcs_drop, List.drop_eq_getElem_cons h, rcs, rat, List.getD_eq_getElem?_getD, List.getElem?_eq_getElem h]
  rfl
theorem rat_take (xs : List Rc) (n j : Nat) (h : j < n) : rat (xs.take n) j = rat xs j := by unfold rat; simp [List.getD_eq_getElem?_getD, List.getElem?_take, h]
theorem rcs_one (xs : List Rc) : ∀ u ∈ rcs xs, u.oneCell' = true := by
  induction xs with
  | nil => intro u hu; cases hu
  | cons x xs ih =>
    intro u hu
    rcases List.mem_append.1 hu with h | h
    · simp only [Rc.cs, List.mem_cons, List.not_mem_nil, or_false] at h
      rcases h with rfl | rfl | rfl | rfl <;> rfl
    · exact ih u h
theorem rcs_rep (n : Nat) : rcs (List.replicate n rc0) = (List.replicate n rc0.cs).flatten := by
  induction n with
  | zero => rfl
  | succ n ih => rw [List.replicate_succ, List.replicate_succ, rcs, List.flatten_cons, ih]
theorem zc_i64u (x : BitVec 64) : IntKind.u64.wrap (i64 x) = n64 x := i64_u64 x
theorem zc_u64i (x : BitVec 64) : IntKind.i64.wrap (n64 x) = i64 x := by
  unfold n64 i64
  have h1 := x.isLt
  rw [IntKind.wrap_i64, BitVec.toInt_eq_toNat_cond]
  split <;> omega
section
variable {P : Program} {X : Cx} {s : List (Nat × Value)} {h : List HA} {o : Oper} {K K0 J : Jd}
/-- A record out of a slice of them. -/
theorem ld_rc {A : Option Addr} {n c j : Nat} {xs : List Rc} {x : Operand} {ty : TypeId} {td : TypeDesc} (hs : Src h A 4 n c (rcs xs)) (hj : j < n) (ht : P.underlying ty = some td) (hn : isAggT td = true) (hz : (P.info? ty).map (·.size) = some 4) (ho : o.op = .load ty x) (hx : ev s x = some (.pointer (some ((adr A).add (j * 4))))) :
    Ld P s h o (.agg [.bool (rat xs j).d, .int .i64 (i64 (rat xs j).k), .int .i64 (i64 (rat xs j).v), .int .i64 (i64 (rat xs j).s)].toArray) := fun e he w hw => by
  have hr := (hs w hw).1
  have hl := hr.len
  rw [rcs_len] at hl
  cases A with
  | none => have h1 := hr.isn rfl; have h2 := hr.le; omega
  | some ad =>
    show (execOp e o).run P w = _
    unfold execOp; rw [ho]
    simp only [he _ _ hx, Instr.loadAt, Instr.sureAddr, Sem.run_bind, Sem.run_pure, Result.andThen_ok]
    rw [run_loadAgg (ds := (rat xs j).cs) (fun i v hi => ?_) ht hn (by rw [hz]; rfl)]
    · rfl
    · rw [← rcs_at xs j (by omega), List.getElem?_take] at hi
      split at hi
      · rw [List.getElem?_drop] at hi
        have := hr.cells ad rfl _ _ hi
        rw [← this]
        show w.cell? ((ad.add (j * 4)).add i) = _
        congr 1
        obtain ⟨b, q, z⟩ := ad
        by_cases h1 : j * 4 = 0 <;> by_cases h2 : i = 0 <;> simp [Addr.add, h1, h2, Nat.add_assoc] <;> omega
      · cases hi
theorem madeCells_agg (zs : List Value) (n : Nat) (h : 0 < zs.length) : (madeCells zs.toArray (n * zs.length)).toList = (List.replicate n zs).flatten := by
  induction n with
  | zero => simp [madeCells]
  | succ n ih =>
    rw [List.replicate_succ', List.flatten_append, ← ih]
    apply List.ext_getElem
    · simp [madeCells, Nat.succ_mul]
    · intro i h1 h2
      simp [madeCells] at h1 ⊢
      by_cases hi : i < n * zs.length
      · rw [List.getElem_append_left (by simpa using hi)]; simp
      · rw [List.getElem_append_right (by simpa using hi)]
        simp
        have : i % zs.length = i - n * zs.length := by
          have e : i = (i - n * zs.length) + zs.length * n := by rw [Nat.mul_comm zs.length n]; omega
          rw [e, Nat.add_mul_mod_self_left, Nat.mod_eq_of_lt (by rw [Nat.succ_mul] at h1; omega)]
          rw [Nat.mul_comm zs.length n]; omega
        rw [this, List.getElem?_eq_getElem (by rw [Nat.succ_mul] at h1; omega)]
        rfl
/-- A slice of records is made. -/
theorem op_makeR {d : Nat} {t e : TypeId} {x y : Operand} {bytes n c : Nat} (ht : P.underlying t = some (.slice e)) (hi : (P.info? e).map (fun i => (i.zero, i.size, i.bytes)) = some (some (.agg rc0.cs.toArray), 4, bytes)) (hnc : n ≤ c) (hb : bytes * c ≤ 281474976710656) (hc : c ≤ 9223372036854775807)
    (ho : o.op = .makeSlice t x y) (hx : ev s x = some (.int .i64 (n : Int))) (hy : ev s y = some (.int .i64 (c : Int))) (hd : o.dst = some d) (hN : Nat.blt d X.N = true)
    (hh : ∀ g, Tr X ((d, .slice (some ⟨g, 0, none⟩) n c) :: s) (.blk g e (rcs (List.replicate c rc0)) :: h) K) : Tr X s h (Op P o K K0) := fun a w st => by
  obtain ⟨i, hi1, hi2⟩ := Option.map_eq_some_iff.1 hi
  simp only [Prod.mk.injEq] at hi2
  obtain ⟨h1, h2, h3⟩ := hi2
  have hb' : (i.bytes : Int) * (c : Int) ≤ 281474976710656 := by rw [h3]; omega
  have hr := run_make (P := P) w t e i _ ht hi1 h1 .i64 .i64 (n : Int) (c : Int) (by omega) (by omega) hb' (by omega)
  have hcells : madeCells (Value.agg rc0.cs.toArray).cells (((c : Int)).toNat * i.size) = (rcs (List.replicate c rc0)).toArray := by
    apply Array.toList_inj.1
    rw [h2, Int.toNat_natCast, rcs_rep]
    exact madeCells_agg rc0.cs c (by decide)
  rw [hcells] at hr
  have hr' : (execOp a.eval o).run P w = .ok (.value (.slice (some ⟨w.heap.size, 0, none⟩) n c)) (w.alloc (.cells (rcs (List.replicate c rc0)).toArray e (0, 0))) := by
    unfold execOp; rw [ho]
    simp only [st.ag _ _ hx, st.ag _ _ hy]
    rw [Sem.run_bind, hr]; rfl
  exact op_val hr' (by rw [hd]; exact hh _ _ _ (st.newblk hN e _ _))
end
end Go.Proofs.Ytlplpmkdebemnaa.Fw
