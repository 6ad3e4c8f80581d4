/- Loops of a known number of rounds, walked round by round. No conditions. -/
import Derived.Test.YtlplpmkdebemnaaFwK
import Derived.LoopNIn
namespace Go.Proofs.Ytlplpmkdebemnaa.Fw
set_option linter.unusedVariables false
set_option linter.unusedSimpArgs false
open Go.RowKit Bv
/-- A closed word, asked of the kernel. -/
theorem kr {p : Prop} (h : p := by kernel_rfl) : p := h
def LoopK (F : Fence) (n : Nat) (P : Program) (nrm ret : Jd) (ex : List (Nat × Jd)) (x : Code) : Nat → Jd
  | 0 => fun _ _ => False
  | m + 1 => Wp F n P ⟨LoopK F n P nrm ret ex x m, ret, ex⟩ x
section
variable {F : Fence} {n : Nat} {P : Program} {X : Cx} {s : List (Nat × Value)} {h : List HA} {nrm ret : Jd} {ex : List (Nat × Jd)} {x : Code}
theorem T_rounds (m : Nat) (hh : Tr X s h (LoopK F n P nrm ret ex x m)) : Tr X s h (Wp F n P ⟨nrm, ret, ex⟩ (.loop x)) := fun a w st => by
  refine wpIn_loop_rounds m ?_
  have key : ∀ m a w, LoopK F n P nrm ret ex x m a w → Code.roundsIn F n P x (toQ ⟨nrm, ret, ex⟩) m a w := by
    intro m
    induction m with
    | zero => intro a w h; exact h.elim
    | succ m ih => intro a w h; exact wpIn_mono h (fun e a w hq => by cases e <;> first | exact ih _ _ hq | exact hq)
  exact key m a w (hh a w st)
theorem T_round {m : Nat} (hh : Tr X s h (Wp F n P ⟨LoopK F n P nrm ret ex x m, ret, ex⟩ x)) : Tr X s h (LoopK F n P nrm ret ex x (m + 1)) := hh
end
section
variable {F : Fence} {n : Nat} {P : Program} {X : Cx} {s : List (Nat × Value)} {h : List HA} {nrm ret K K0 : Jd} {ex : List (Nat × Jd)} {ops : Array Oper} {o : Oper} {os : List Oper} {d : Nat} {v : Value}
theorem lm {x : Operand} (hw : wantS ops s o = some true) (ho : o.op = .move x) (hx : ev s x = some v) (hd : o.dst = some d) (hN : Nat.blt d X.N = true) (hh : Tr X ((d, v) :: s) h (Ls P ops K os)) : Tr X s h (Ls P ops K (o :: os)) := L_op hw (op_pr (pr_move ho hx) hd hN hh)
theorem la {x : Operand} (hw : wantS ops s o = some true) (ho : o.op = .assign x) (hx : ev s x = some v) (hd : o.dst = some d) (hN : Nat.blt d X.N = true) (hh : Tr X ((d, v) :: s) h (Ls P ops K os)) : Tr X s h (Ls P ops K (o :: os)) := L_op hw (op_pr (pr_assign ho hx) hd hN hh)
theorem lo (hw : wantS ops s o = some true) (hp : Pr P s h o v) (hd : o.dst = some d) (hN : Nat.blt d X.N = true) (hh : Tr X ((d, v) :: s) h (Ls P ops K os)) : Tr X s h (Ls P ops K (o :: os)) := L_op hw (op_pr hp hd hN hh)
theorem lq (hw : wantS ops s o = some true) (hp : Ld P s h o v) (hd : o.dst = some d) (hN : Nat.blt d X.N = true) (hh : Tr X ((d, v) :: s) h (Ls P ops K os)) : Tr X s h (Ls P ops K (o :: os)) := L_op hw (op_ld hp hd hN hh)
theorem Tsr {id : Nat} {y : Code} (hF : Wid F) (hd : noDefer os = true) (hh : Tr X s h (Ls P os.toArray (Wp F n P ⟨nrm, ret, ex⟩ y) os)) : Tr X s h (Wp F n P ⟨nrm, ret, ex⟩ (.seq (.region id os.toArray false) y)) := T_seq (T_reg hF hd hh)
theorem op_cn {T : Type} {q : T → Prop} {res : T → Value} {hs : T → List HA} {f : FuncId} {c : Operand} {xs : List Operand} {ts : Array TypeId} {vs : List Value} (hcon : ∀ w, HOK h w → Calls P f vs.toArray w (Ret [] w q res hs)) (hf : Go.Proofs.Enters P f)
    (ho : o.op = .call { callee := .value c, args := xs.toArray, argTypes := ts }) (hc : ev s c = some (.func (.func f) #[] #[])) (hx : xs.map (ev s) = vs.map some) (hd : o.dst = some d) (hN : Nat.blt d X.N = true) (hh : ∀ t, q t → Tr X ((d, res t) :: s) (hs t ++ h) K) : Tr X s h (Op P o K K0) :=
  op_call0 (cap := []) (vs := vs) (by simpa using hcon) hf ho hc hx hd hN hh
theorem op_c1 {T : Type} {q : T → Prop} {res : T → Value} {hs : T → List HA} {f : FuncId} {c : Operand} {xs : List Operand} {ts : Array TypeId} {vs : List Value} {x : HA} (i : Nat) (hi : h[i]? = some x) (hcon : ∀ w, HOK h w → Calls P f vs.toArray w (Ret x.ids w q res hs)) (hf : Go.Proofs.Enters P f)
    (ho : o.op = .call { callee := .value c, args := xs.toArray, argTypes := ts }) (hc : ev s c = some (.func (.func f) #[] #[])) (hx : xs.map (ev s) = vs.map some) (hd : o.dst = some d) (hN : Nat.blt d X.N = true) (hh : ∀ t, q t → Tr X ((d, res t) :: s) (hs t ++ h.eraseIdx i) K) : Tr X s h (Op P o K K0) :=
  op_call1 (cap := []) (vs := vs) i hi (by simpa using hcon) hf ho hc hx hd hN hh
theorem fwz {ty : TypeId} {n : Nat} {vs : List Value} (h : (P.info? ty).map (·.size) = some n) (hl : vs.length = n) : (P.info? ty).map (·.size) = some vs.length := by rw [h, hl]
theorem stl {α : Type} {m : Nat} {xs : List α} {f : α → Value} {v : Value} (h : m < xs.length) : m + [v].length ≤ (xs.map f).length := by simp; omega
theorem stt {m : Nat} {xs : List Value} {v : Value} (h : m < xs.length) : m + [v].length ≤ xs.length := by simp; omega
theorem op_sto {ty e : TypeId} {x y : Operand} {g n : Nat} {cs vs : List Value} (i : Nat) (hi : h[i]? = some (.blk g e cs)) (hv : v.cells.toList = vs) (hz : (P.info? ty).map (·.size) = some n) (h1 : ∀ u ∈ vs, u.oneCell' = true) (hc : cs.length = n) (hl : vs.length = n)
    (ho : o.op = .store ty x y) (hx : ev s x = some (.pointer (some ⟨g, 0, none⟩))) (hy : ev s y = some v) (hd : o.dst = none) (hh : Tr X s (.blk g e vs :: h.eraseIdx i) K) : Tr X s h (Op P o K K0) :=
  op_store i hi hv (fwz hz hl) h1 (by omega) (splice_all (by omega)) ho hx hy hd hh
end
section
variable {P : Program} {s : List (Nat × Value)} {h : List HA} {o : Oper}
theorem pr_eqb {t t2 : TypeId} {x y : Operand} {a b c : Bool} (hc : (a == b) = c) (ht : P.underlying t = some .bool) (ho : o.op = .binOp .eql t x y t2) (hx : ev s x = some (.bool a)) (hy : ev s y = some (.bool b)) : Pr P s h o (.bool c) := fun e he w hw w' => by
  unfold execOp; rw [ho]
  simp only [he _ _ hx, he _ _ hy]
  have hg : (eqGuard .eql t x y (.bool a) (.bool b)).run P w' = .ok () w' := by unfold eqGuard; simp
  rw [Sem.run_bind, Sem.run_bind, hg]
  subst hc
  simp [binOp, run_equal_bool w' t a b ht]
theorem pr_neb {t t2 : TypeId} {x y : Operand} {a b c : Bool} (hc : (a != b) = c) (ht : P.underlying t = some .bool) (ho : o.op = .binOp .neq t x y t2) (hx : ev s x = some (.bool a)) (hy : ev s y = some (.bool b)) : Pr P s h o (.bool c) := fun e he w hw w' => by
  unfold execOp; rw [ho]
  simp only [he _ _ hx, he _ _ hy]
  have hg : (eqGuard .neq t x y (.bool a) (.bool b)).run P w' = .ok () w' := by unfold eqGuard; simp
  rw [Sem.run_bind, Sem.run_bind, hg]
  subst hc
  simp [binOp, run_equal_bool w' t a b ht, bne]
end
end Go.Proofs.Ytlplpmkdebemnaa.Fw
