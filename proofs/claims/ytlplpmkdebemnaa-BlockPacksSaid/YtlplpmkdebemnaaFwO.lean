/- One law for each kind of operation, by facts. No conditions. -/
import Derived.Test.YtlplpmkdebemnaaFwD
import Derived.Laws.MakeOwn
import Derived.Laws.Tables
namespace Go.Proofs.Ytlplpmkdebemnaa.Fw
set_option linter.unusedVariables false
set_option linter.unusedSimpArgs false
open Go.RowKit Bv
section
variable {P : Program} {s : List (Nat × Value)} {h : List HA} {o : Oper} {v : Value}
theorem pr_run {sv : Sem Value} (e : ∀ e, Ag s e → ∀ w, HOK h w → execOp e o = (do pure (.value (← sv)))) (hr : ∀ w, sv.run P w = .ok v w) : Pr P s h o v := fun e' he w hw w' => by
  rw [e e' he w hw, Sem.run_bind, hr w']; rfl
theorem pr_move {x : Operand} (ho : o.op = .move x) (hx : ev s x = some v) : Pr P s h o v := fun e he w hw w' => by unfold execOp; rw [ho]; simp only [he _ _ hx]; rfl
theorem pr_assign {x : Operand} (ho : o.op = .assign x) (hx : ev s x = some v) : Pr P s h o v := fun e he w hw w' => by unfold execOp; rw [ho]; simp only [he _ _ hx]; rfl
theorem pr_bin {bo : BinOp} {t t2 : TypeId} {x y : Operand} {k : IntKind} {a b : Int} (ho : o.op = .binOp bo t x y t2) (hx : ev s x = some (.int k a)) (hy : ev s y = some (.int k b)) (hr : ∀ w, (binOp bo t (.int k a) (.int k b)).run P w = .ok v w) : Pr P s h o v := fun e he w hw w' => by
  unfold execOp; rw [ho]
  simp only [he _ _ hx, he _ _ hy]
  have hg : (eqGuard bo t x y (.int k a) (.int k b)).run P w' = .ok () w' := by unfold eqGuard; cases bo <;> simp
  rw [Sem.run_bind, Sem.run_bind, hg]
  simp only [Result.andThen_ok]
  rw [hr w']; rfl
theorem pr_add {t t2 : TypeId} {x y : Operand} {k : IntKind} {a b c : Int} (hc : k.wrap (a + b) = c) (ho : o.op = .binOp .add t x y t2) (hx : ev s x = some (.int k a)) (hy : ev s y = some (.int k b)) : Pr P s h o (.int k c) :=
  pr_bin ho hx hy (fun w => by simp [binOp, Op.intArith, hc])
theorem pr_sub {t t2 : TypeId} {x y : Operand} {k : IntKind} {a b c : Int} (hc : k.wrap (a - b) = c) (ho : o.op = .binOp .sub t x y t2) (hx : ev s x = some (.int k a)) (hy : ev s y = some (.int k b)) : Pr P s h o (.int k c) :=
  pr_bin ho hx hy (fun w => by simp [binOp, Op.intArith, hc])
theorem pr_mul {t t2 : TypeId} {x y : Operand} {k : IntKind} {a b c : Int} (hc : k.wrap (a * b) = c) (ho : o.op = .binOp .mul t x y t2) (hx : ev s x = some (.int k a)) (hy : ev s y = some (.int k b)) : Pr P s h o (.int k c) :=
  pr_bin ho hx hy (fun w => by simp [binOp, Op.intArith, hc])
theorem pr_and {t t2 : TypeId} {x y : Operand} {k : IntKind} {a b c : Int} (hc : Op.intBits .and k a b = pure (.int k c)) (ho : o.op = .binOp .and t x y t2) (hx : ev s x = some (.int k a)) (hy : ev s y = some (.int k b)) : Pr P s h o (.int k c) :=
  pr_bin ho hx hy (fun w => by simp [binOp, hc])
theorem pr_or {t t2 : TypeId} {x y : Operand} {k : IntKind} {a b c : Int} (hc : Op.intBits .or k a b = pure (.int k c)) (ho : o.op = .binOp .or t x y t2) (hx : ev s x = some (.int k a)) (hy : ev s y = some (.int k b)) : Pr P s h o (.int k c) :=
  pr_bin ho hx hy (fun w => by simp [binOp, hc])
theorem pr_xor {t t2 : TypeId} {x y : Operand} {k : IntKind} {a b c : Int} (hc : Op.intBits .xor k a b = pure (.int k c)) (ho : o.op = .binOp .xor t x y t2) (hx : ev s x = some (.int k a)) (hy : ev s y = some (.int k b)) : Pr P s h o (.int k c) :=
  pr_bin ho hx hy (fun w => by simp [binOp, hc])
theorem pr_andNot {t t2 : TypeId} {x y : Operand} {k : IntKind} {a b c : Int} (hc : Op.intBits .andNot k a b = pure (.int k c)) (ho : o.op = .binOp .andNot t x y t2) (hx : ev s x = some (.int k a)) (hy : ev s y = some (.int k b)) : Pr P s h o (.int k c) :=
  pr_bin ho hx hy (fun w => by simp [binOp, hc])
theorem pr_shift {bo : BinOp} {t t2 : TypeId} {x y : Operand} {k k2 : IntKind} {a b c : Int} (hc : Op.shift bo k a k2 b = pure (.int k c)) (ho : o.op = .binOp bo t x y t2) (hb : (bo == .shl || bo == .shr) = true) (hx : ev s x = some (.int k a)) (hy : ev s y = some (.int k2 b)) : Pr P s h o (.int k c) := fun e he w hw w' => by
  unfold execOp; rw [ho]
  simp only [he _ _ hx, he _ _ hy]
  have hg : (eqGuard bo t x y (.int k a) (.int k2 b)).run P w' = .ok () w' := by unfold eqGuard; cases bo <;> simp
  rw [Sem.run_bind, Sem.run_bind, hg]
  simp only [Result.andThen_ok]
  cases bo <;> first | (cases hb; done) | (simp [binOp, hc])
theorem pr_quo {t t2 : TypeId} {x y : Operand} {a b : Nat} (hb : 0 < b) (ha : (a : Int) ≤ 9223372036854775807) (ho : o.op = .binOp .quo t x y t2) (hx : ev s x = some (.int .i64 (a : Int))) (hy : ev s y = some (.int .i64 (b : Int))) : Pr P s h o (.int .i64 ((a / b : Nat) : Int)) :=
  pr_bin ho hx hy (fun w => by
    have h1 : ¬ (b : Int) = 0 := by omega
    have h2 : (a : Int).tdiv b = ((a / b : Nat) : Int) := by rw [Int.tdiv_eq_ediv_of_nonneg (by omega)]; simp
    have h3 : IntKind.i64.wrap ((a / b : Nat) : Int) = ((a / b : Nat) : Int) := by
      have h4 : a / b ≤ a := Nat.div_le_self a b
      generalize a / b = q at h4 ⊢
      rw [IntKind.wrap_i64]; omega
    simp only [binOp, Op.intDiv, h1, if_false, h2, h3, ne_eq, not_true_eq_false]
    rfl)
theorem pr_rem {t t2 : TypeId} {x y : Operand} {k : IntKind} {a b : Nat} (hb : 0 < b) (ho : o.op = .binOp .rem t x y t2) (hx : ev s x = some (.int k (a : Int))) (hy : ev s y = some (.int k (b : Int))) : Pr P s h o (.int k ((a % b : Nat) : Int)) :=
  pr_bin ho hx hy (fun w => by
    have h1 : ¬ (b : Int) = 0 := by omega
    have h2 : (a : Int).tmod b = ((a % b : Nat) : Int) := by rw [Int.tmod_eq_emod_of_nonneg (by omega)]; simp
    simp only [binOp, Op.intDiv, h1, if_false, h2, ne_eq, not_true_eq_false]
    rfl)
theorem pr_cmp {bo : BinOp} {t t2 : TypeId} {x y : Operand} {k : IntKind} {a b : Int} {c : Bool} (hc : (match bo with | .eql => a == b | .neq => a != b | .lss => decide (a < b) | .leq => decide (a ≤ b) | .gtr => decide (b < a) | .geq => decide (b ≤ a) | _ => false) = c) (hb : (bo == .eql || bo == .neq || bo == .lss || bo == .leq || bo == .gtr || bo == .geq) = true) (ho : o.op = .binOp bo t x y t2) (hx : ev s x = some (.int k a)) (hy : ev s y = some (.int k b)) : Pr P s h o (.bool c) :=
  pr_bin ho hx hy (fun w => by
    cases bo <;> first | (cases hb; done) | (simp only at hc; subst hc; simp [binOp, Op.intCmp, GT.gt, GE.ge]))
theorem pr_un {uo : UnOp} {t : TypeId} {x : Operand} {u : Value} (hr : Op.unary uo u = pure v) (ho : o.op = .unOp uo t x) (hx : ev s x = some u) : Pr P s h o v := fun e he w hw w' => by
  unfold execOp; rw [ho]; simp only [he _ _ hx, hr]; rfl
theorem pr_cv {src dst : TypeId} {x : Operand} {k k2 : IntKind} {a c : Int} {td : TypeDesc} (hc : k.wrap a = c) (hs : P.underlying src = some td) (hd : P.underlying dst = some (.int k)) (ho : o.op = .convert src dst x) (hx : ev s x = some (.int k2 a)) : Pr P s h o (.int k c) := fun e he w hw w' => by
  unfold execOp; rw [ho]; simp only [he _ _ hx, convert, Sem.run_bind, run_underlying hs, run_underlying hd, Result.andThen_ok]
  cases td <;> simp [Conv.intToInt, hc]
theorem pr_pick_t {c x y : Operand} (ho : o.op = .pick c x y) (hc : ev s c = some (.bool true)) (hx : ev s x = some v) : Pr P s h o v := fun e he w hw w' => by
  unfold execOp; rw [ho]; simp [he _ _ hc, he _ _ hx, asBool]
theorem pr_pick_f {c x y : Operand} (ho : o.op = .pick c x y) (hc : ev s c = some (.bool false)) (hy : ev s y = some v) : Pr P s h o v := fun e he w hw w' => by
  unfold execOp; rw [ho]; simp [he _ _ hc, he _ _ hy, asBool]
theorem pr_ext {x : Operand} {i : Nat} {vs : List Value} (ho : o.op = .extract x i) (hx : ev s x = some (.tuple vs.toArray)) (hi : vs[i]? = some v) : Pr P s h o v := fun e he w hw w' => by
  unfold execOp; rw [ho]; simp [he _ _ hx, Instr.extract, hi]
theorem pr_len_sl {x : Operand} {t e' : TypeId} {A : Option Addr} {n c : Nat} (ht : P.underlying t = some (.slice e')) (ho : o.op = .call { callee := .builtin .len, args := #[x], argTypes := #[t] }) (hx : ev s x = some (.slice A n c)) : Pr P s h o (.int .i64 (n : Int)) := fun e he w hw w' => by
  unfold execOp; rw [ho]; simp [he _ _ hx, resolve, invoke, builtin, Builtin.len_, run_underlying ht, goInt]
theorem pr_len_arr {x : Operand} {t e' : TypeId} {n : Nat} {u : Value} (ht : P.underlying t = some (.array n e')) (ho : o.op = .call { callee := .builtin .len, args := #[x], argTypes := #[t] }) (hx : ev s x = some u) : Pr P s h o (.int .i64 (n : Int)) := fun e he w hw w' => by
  unfold execOp; rw [ho]; simp [he _ _ hx, resolve, invoke, builtin, Builtin.len_, run_underlying ht, goInt]
theorem pr_max {x y : Operand} {tx ty : TypeId} {k : IntKind} {a b : Int} (ho : o.op = .call { callee := .builtin .max, args := #[x, y], argTypes := #[tx, ty] }) (hx : ev s x = some (.int k a)) (hy : ev s y = some (.int k b)) : Pr P s h o (.int k (if a < b then b else a)) := fun e he w hw w' => by
  unfold execOp; rw [ho]; simp [he _ _ hx, he _ _ hy, resolve, invoke, builtin, Builtin.max_, Builtin.max2, GT.gt]
theorem pr_min {x y : Operand} {tx ty : TypeId} {k : IntKind} {a b : Int} (ho : o.op = .call { callee := .builtin .min, args := #[x, y], argTypes := #[tx, ty] }) (hx : ev s x = some (.int k a)) (hy : ev s y = some (.int k b)) : Pr P s h o (.int k (if b < a then b else a)) := fun e he w hw w' => by
  unfold execOp; rw [ho]; simp [he _ _ hx, he _ _ hy, resolve, invoke, builtin, Builtin.min_, Builtin.min2]
theorem pr_nilck {x : Operand} {a : Addr} (ho : o.op = .nilCheck x) (hx : ev s x = some (.pointer (some a))) : Pr P s h o (.pointer (some a)) := fun e he w hw w' => by
  unfold execOp; rw [ho]; simp [he _ _ hx]
theorem pr_mkfn {fn : Fn} {fs cs : List Operand} {us vs : List Value} (ho : o.op = .makeFunc fn fs.toArray cs.toArray) (hf : fs.map (ev s) = us.map some) (hc : cs.map (ev s) = vs.map some) : Pr P s h o (.func fn us.toArray vs.toArray) := fun e he w hw w' => by
  have key : ∀ (l : List Operand) (r : List Value), l.map (ev s) = r.map some → l.map e = r := by
    intro l
    induction l with
    | nil => intro r hr; cases r with | nil => rfl | cons _ _ => simp at hr
    | cons a l ih => intro r hr; cases r with
      | nil => simp at hr
      | cons b r => simp only [List.map_cons, List.cons.injEq] at hr ⊢; exact ⟨he _ _ hr.1, ih r hr.2⟩
  unfold execOp; rw [ho]; simp [Instr.makeFunc, key fs us hf, key cs vs hc]
theorem run_sizeOf {t : TypeId} {z : Nat} (h : (P.info? t).map (·.size) = some z) (w : World) : (sizeOf t).run P w = .ok z w := by
  obtain ⟨i, hi, hs⟩ := Option.map_eq_some_iff.1 h
  simp [sizeOf, typeInfo, hi, hs]
/-- The address of an element of an array that lies in a block. -/
theorem pr_ixa {x y : Operand} {t e' : TypeId} {len g m j z m' : Nat} {k : IntKind} (hj : j < len) (hm : m + j * z = m') (ht : P.underlying t = some (.array len e')) (hz : (P.info? e').map (·.size) = some z) (ho : o.op = .indexAddr t x y) (hx : ev s x = some (.pointer (some ⟨g, m, none⟩))) (hy : ev s y = some (.int k (j : Int))) :
    Pr P s h o (.pointer (some ⟨g, m', none⟩)) := fun e he w hw w' => by
  subst hm
  have h2 : (0 : Int) ≤ j ∧ (j : Int) < len := by omega
  have h3 : ¬ len ≤ j := by omega
  unfold execOp; rw [ho]
  simp [he _ _ hx, he _ _ hy, Instr.indexAt, asIntOf, Instr.sureAddr, run_underlying ht, h2, h3, run_sizeOf hz, Addr.add_lit]
/-- The address of an element of a slice. -/
theorem pr_ixs {x y : Operand} {t e' : TypeId} {A : Option Addr} {n c j z : Nat} {k : IntKind} (hA : ∀ w, HOK h w → A = none → n = 0) (hj : j < n) (ht : P.underlying t = some (.slice e')) (hz : (P.info? e').map (·.size) = some z) (ho : o.op = .indexAddr t x y) (hx : ev s x = some (.slice A n c)) (hy : ev s y = some (.int k (j : Int))) :
    Pr P s h o (.pointer (some ((adr A).add (j * z)))) := fun e he w hw w' => by
  cases A with
  | none => have := hA w hw rfl; omega
  | some ad =>
    have h2 : (0 : Int) ≤ j ∧ (j : Int) < n := by omega
    have h3 : ¬ n ≤ j := by omega
    unfold execOp; rw [ho]
    simp [he _ _ hx, he _ _ hy, Instr.indexAt, asIntOf, run_underlying ht, h2, h3, run_sizeOf hz, adr]
theorem pr_ixs1 {x y : Operand} {t e' : TypeId} {A : Option Addr} {n c j : Nat} {k : IntKind} (hA : ∀ w, HOK h w → A = none → n = 0) (hj : j < n) (ht : P.underlying t = some (.slice e')) (hz : (P.info? e').map (·.size) = some 1) (ho : o.op = .indexAddr t x y) (hx : ev s x = some (.slice A n c)) (hy : ev s y = some (.int k (j : Int))) :
    Pr P s h o (.pointer (some ((adr A).add j))) := by
  have := pr_ixs (P := P) (s := s) (h := h) (o := o) hA hj ht hz ho hx hy
  rwa [Nat.mul_one] at this
/-- The same of a slice at the head of a block. -/
theorem pr_ixb {x y : Operand} {t e' : TypeId} {g m n c j z m' : Nat} {k : IntKind} (hj : j < n) (hm : m + j * z = m') (ht : P.underlying t = some (.slice e')) (hz : (P.info? e').map (·.size) = some z) (ho : o.op = .indexAddr t x y) (hx : ev s x = some (.slice (some ⟨g, m, none⟩) n c)) (hy : ev s y = some (.int k (j : Int))) :
    Pr P s h o (.pointer (some ⟨g, m', none⟩)) := fun e he w hw w' => by
  subst hm
  have h2 : (0 : Int) ≤ j ∧ (j : Int) < n := by omega
  have h3 : ¬ n ≤ j := by omega
  unfold execOp; rw [ho]
  simp [he _ _ hx, he _ _ hy, Instr.indexAt, asIntOf, run_underlying ht, h2, h3, run_sizeOf hz, Addr.add_lit]
def notAgg : TypeDesc → Bool
  | .struct _ => false
  | .array _ _ => false
  | _ => true
theorem run_isAgg {t : TypeId} {td : TypeDesc} (h : P.underlying t = some td) (hn : notAgg td = true) (w : World) : (isAgg t).run P w = .ok false w := by
  unfold isAgg; rw [Sem.run_bind, run_underlying h w]
  cases td <;> first | (cases hn; done) | simp
/-- An element of an array. -/
theorem pr_ix {x y : Operand} {t e' : TypeId} {cs : List Value} {len j : Nat} {k : IntKind} {td : TypeDesc} (hj : j < len) (hv : cs[j]? = some v) (ht : P.underlying t = some (.array len e')) (he' : P.underlying e' = some td) (hn : notAgg td = true) (hz : (P.info? e').map (·.size) = some 1) (ho : o.op = .index t x y) (hx : ev s x = some (.agg cs.toArray)) (hy : ev s y = some (.int k (j : Int))) :
    Pr P s h o v := fun e he w hw w' => by
  have h2 : (0 : Int) ≤ j ∧ (j : Int) < len := by omega
  have h3 : ¬ len ≤ j := by omega
  unfold execOp; rw [ho]
  simp [he _ _ hx, he _ _ hy, Instr.index, asIntOf, run_underlying ht, h2, h3, run_sizeOf hz, part, run_isAgg he' hn, hv]
theorem pr_s2a {x : Operand} {t e' : TypeId} {A : Option Addr} {len n c : Nat} (hl : len ≤ n) (ht : P.underlying t = some (.array len e')) (ho : o.op = .sliceToArrayPointer t x) (hx : ev s x = some (.slice A n c)) : Pr P s h o (.pointer A) := fun e he w hw w' => by
  have h2 : ¬ n < len := by omega
  unfold execOp; rw [ho]
  simp [he _ _ hx, Instr.arrayAt, run_underlying ht, h2]
/-- A value that Lean's own run tells. -/
theorem pr_build {t : TypeId} {ps : List (Nat × Operand)} {qs : List (Nat × Value)} (hr : ∀ w, (Instr.build t qs.toArray).run P w = .ok v w) (hq : ps.map (fun p => (p.1, ev s p.2)) = qs.map (fun p => (p.1, some p.2))) (ho : o.op = .build t ps.toArray) : Pr P s h o v := fun e he w hw w' => by
  have key : ∀ (l : List (Nat × Operand)) (r : List (Nat × Value)), l.map (fun p => (p.1, ev s p.2)) = r.map (fun p => (p.1, some p.2)) → l.map (fun p => (p.1, e p.2)) = r := by
    intro l
    induction l with
    | nil => intro r hr; cases r with | nil => rfl | cons _ _ => simp at hr
    | cons a l ih => intro r hr; cases r with
      | nil => simp at hr
      | cons b r =>
        simp only [List.map_cons, List.cons.injEq, Prod.mk.injEq] at hr ⊢
        exact ⟨Prod.ext hr.1.1 (he _ _ hr.1.2), ih r hr.2⟩
  unfold execOp; rw [ho]
  have : (ps.toArray.map fun (x : Nat × Operand) => (x.1, e x.2)) = qs.toArray := by rw [List.map_toArray, key ps qs hq]
  simp only [this]
  rw [Sem.run_bind, hr w']; rfl
end
section
variable {P : Program} {X : Cx} {s : List (Nat × Value)} {h : List HA} {a : Act} {w : World} {o : Oper} {K K0 : Jd} {v : Value}
/-- Where a row of cells is told by what is held. -/
def Src (h : List HA) (A : Option Addr) (z n c : Nat) (cs : List Value) : Prop := ∀ w, HOK h w → (HA.rd A z n c cs).ok w
theorem src_rd {A : Option Addr} {z n c : Nat} {cs : List Value} (i : Nat) (hi : h[i]? = some (.rd A z n c cs)) : Src h A z n c cs := fun w hw => hw _ (List.mem_of_getElem? hi)
theorem src_old {A : Option Addr} {z n c : Nat} {cs : List Value} (i : Nat) (hi : h[i]? = some (.old A z n c cs)) : Src h A z n c cs := fun w hw => (hw _ (List.mem_of_getElem? hi) : (HA.old A z n c cs).ok w)
theorem src_none {A : Option Addr} {z n c : Nat} {cs : List Value} (hs : Src h A z n c cs) : ∀ w, HOK h w → A = none → n = 0 := fun w hw e => by have := (hs w hw).1.isn e; have := (hs w hw).1.le; omega
theorem rdv_blk {w : World} {g m z n c : Nat} {e : TypeId} {cs ds : List Value} (hb : w.heap[g]? = some (.cells cs.toArray e (0, 0))) (hl : ds.length = n * z) (hd : (cs.drop m).take (n * z) = ds) (hc : n ≤ c) (hm : c ≤ 9223372036854775807) : RdV w (some ⟨g, m, none⟩) z n c ds := by
  refine ⟨hl, hc, hm, (fun h => by cases h), fun ad e' j v hj => ?_⟩
  cases e'
  rw [Addr.add_lit]
  simp only [World.cell?, hb, Option.isSome_none, Bool.false_eq_true, if_false]
  rw [← hd, List.getElem?_take] at hj
  split at hj
  · rw [List.getElem?_drop] at hj; simpa using hj
  · cases hj
theorem src_blk {g m z n c : Nat} {e : TypeId} {cs ds : List Value} (i : Nat) (hi : h[i]? = some (.blk g e cs)) (hl : ds.length = n * z) (hd : (cs.drop m).take (n * z) = ds) (hc : n ≤ c) (hm : c ≤ 9223372036854775807) : Src h (some ⟨g, m, none⟩) z n c ds := fun w hw => ⟨rdv_blk (hw _ (List.mem_of_getElem? hi)) hl hd hc hm, fun ad e _ => by cases e; exact (Array.getElem?_eq_some_iff.1 (hw _ (List.mem_of_getElem? hi))).1⟩
theorem src_row {A : Option Addr} {z n c : Nat} {e : TypeId} {zs : List Value} (i : Nat) (hi : h[i]? = some (.row (.slice A n c) e z n zs)) : Src h A z n c zs := fun w hw => by
  have hw' : w.ownsRow 0 e z (.slice A n c) n zs := hw _ (List.mem_of_getElem? hi)
  obtain ⟨hl, h1 | ⟨g, cap, cur, hv, -, hb, hn, hm, hs, ht⟩⟩ := hw'
  · obtain ⟨h2, h3⟩ := h1
    cases h2
    exact ⟨⟨hl, Nat.le_refl _, by omega, fun _ => rfl, (fun ad h => by cases h)⟩, (fun ad h => by cases h)⟩
  · cases hv
    have := rdv_blk (w := w) (g := g) (m := 0) (z := z) (n := n) (c := c) (cs := cur.toList) (ds := zs) (by simpa using hb) hl (by simpa using ht) hn (by unfold maxLen at hm; omega)
    exact ⟨this, fun ad e _ => by cases e; exact (Array.getElem?_eq_some_iff.1 hb).1⟩
theorem src_nil (z : Nat) : Src h none z 0 0 [] := fun w hw => ⟨⟨by simp, by omega, by omega, fun _ => rfl, (fun ad h => by cases h)⟩, (fun ad h => by cases h)⟩
theorem ld_src {A : Option Addr} {z n c m : Nat} {cs : List Value} {x : Operand} {ty : TypeId} {td : TypeDesc} (hs : Src h A z n c cs) (hv : cs[m]? = some v) (ht : P.underlying ty = some td) (hn : notAgg td = true) (ho : o.op = .load ty x) (hx : ev s x = some (.pointer (some ((adr A).add m)))) : Ld P s h o v := fun e he w hw => by
  have hr := (hs w hw).1
  cases A with
  | none =>
    have h0 := hr.isn rfl; have h1 := hr.le; have h2 := hr.len
    have : cs = [] := List.eq_nil_of_length_eq_zero (by rw [h2, show n = 0 by omega]; simp)
    subst this; cases hv
  | some ad =>
    have hc := hr.cells ad rfl m v hv
    unfold execOp; rw [ho]
    simp [he _ _ hx, Instr.loadAt, Instr.sureAddr, loadVar, run_isAgg ht hn, adr, load, Sem.run, hc]
theorem ld_blk {g m : Nat} {e' : TypeId} {cs : List Value} {x : Operand} {ty : TypeId} {td : TypeDesc} (i : Nat) (hi : h[i]? = some (.blk g e' cs)) (hv : cs[m]? = some v) (ht : P.underlying ty = some td) (hn : notAgg td = true) (ho : o.op = .load ty x) (hx : ev s x = some (.pointer (some ⟨g, m, none⟩))) : Ld P s h o v := fun e he w hw => by
  have hb : w.heap[g]? = some (.cells cs.toArray e' (0, 0)) := hw _ (List.mem_of_getElem? hi)
  have hc : w.cell? ⟨g, m, none⟩ = some v := by simp [World.cell?, hb, hv]
  unfold execOp; rw [ho]
  simp [he _ _ hx, Instr.loadAt, Instr.sureAddr, loadVar, run_isAgg ht hn, load, Sem.run, hc]
theorem ld_rdb {g m n c : Nat} {cs : List Value} {x : Operand} {ty : TypeId} {td : TypeDesc} (hs : Src h (some ⟨g, 0, none⟩) 1 n c cs) (hv : cs[m]? = some v) (ht : P.underlying ty = some td) (hn : notAgg td = true) (ho : o.op = .load ty x) (hx : ev s x = some (.pointer (some ⟨g, m, none⟩))) : Ld P s h o v := fun e he w hw => by
  have hc := (hs w hw).1.cells _ rfl m v hv
  rw [Addr.add_lit, Nat.zero_add] at hc
  unfold execOp; rw [ho]
  simp [he _ _ hx, Instr.loadAt, Instr.sureAddr, loadVar, run_isAgg ht hn, load, Sem.run, hc]
def isAggT : TypeDesc → Bool
  | .struct _ => true
  | .array _ _ => true
  | _ => false
theorem run_isAgg_t {t : TypeId} {td : TypeDesc} (h : P.underlying t = some td) (hn : isAggT td = true) (w : World) : (isAgg t).run P w = .ok true w := by
  unfold isAgg; rw [Sem.run_bind, run_underlying h w]
  cases td <;> first | (cases hn; done) | simp
theorem run_loadAgg {ty : TypeId} {td : TypeDesc} {ad : Addr} {ds : List Value} {w : World} (hc : ∀ j v, ds[j]? = some v → w.cell? (ad.add j) = some v) (ht : P.underlying ty = some td) (hn : isAggT td = true) (hz : (P.info? ty).map (·.size) = some ds.length) : (loadVar ty ad).run P w = .ok (.agg ds.toArray) w := by
  simp only [loadVar, Sem.run_bind, run_isAgg_t ht hn, Result.andThen_ok, if_true, run_sizeOf hz, run_loadCells_list (P := P) w ad ds hc]
  rfl
/-- A whole array or struct is loaded. -/
theorem ld_agg {g m : Nat} {e' : TypeId} {cs ds : List Value} {x : Operand} {ty : TypeId} {td : TypeDesc} (i : Nat) (hi : h[i]? = some (.blk g e' cs)) (hd : (cs.drop m).take ds.length = ds) (ht : P.underlying ty = some td) (hn : isAggT td = true) (hz : (P.info? ty).map (·.size) = some ds.length) (ho : o.op = .load ty x) (hx : ev s x = some (.pointer (some ⟨g, m, none⟩))) : Ld P s h o (.agg ds.toArray) := fun e he w hw => by
  have hb : w.heap[g]? = some (.cells cs.toArray e' (0, 0)) := hw _ (List.mem_of_getElem? hi)
  have hr := rdv_blk (w := w) (g := g) (m := m) (z := 1) (n := ds.length) (c := ds.length) (ds := ds) hb (by simp) (by simpa using hd) (Nat.le_refl _)
  unfold execOp; rw [ho]
  simp only [he _ _ hx, Instr.loadAt, Instr.sureAddr, Sem.run_bind, Sem.run_pure, Result.andThen_ok]
  rw [run_loadAgg (fun j v hj => ?_) ht hn hz]
  · rfl
  · rw [Addr.add_lit]
    simp only [World.cell?, hb, Option.isSome_none, Bool.false_eq_true, if_false]
    rw [← hd, List.getElem?_take] at hj
    split at hj
    · rw [List.getElem?_drop] at hj; simpa using hj
    · cases hj
/-- The same out of a slice's cells. -/
theorem ld_aggs {A : Option Addr} {z n c : Nat} {cs ds : List Value} {x : Operand} {ty : TypeId} {td : TypeDesc} (hs : Src h A z n c cs) (hd : cs.take ds.length = ds) (h0 : 0 < ds.length) (ht : P.underlying ty = some td) (hn : isAggT td = true) (hz : (P.info? ty).map (·.size) = some ds.length) (ho : o.op = .load ty x) (hx : ev s x = some (.pointer A)) : Ld P s h o (.agg ds.toArray) := fun e he w hw => by
  have hr := (hs w hw).1
  cases A with
  | none =>
    have h1 := hr.isn rfl; have h2 := hr.le; have h3 := hr.len
    have : cs = [] := List.eq_nil_of_length_eq_zero (by rw [h3, show n = 0 by omega]; simp)
    subst this; rw [List.take_nil] at hd; subst hd; simp at h0
  | some ad =>
    unfold execOp; rw [ho]
    simp only [he _ _ hx, Instr.loadAt, Instr.sureAddr, Sem.run_bind, Sem.run_pure, Result.andThen_ok]
    rw [run_loadAgg (fun j v hj => hr.cells ad rfl j v ?_) ht hn hz]
    · rfl
    · rw [← hd, List.getElem?_take] at hj
      split at hj
      · exact hj
      · cases hj
end
end Go.Proofs.Ytlplpmkdebemnaa.Fw
