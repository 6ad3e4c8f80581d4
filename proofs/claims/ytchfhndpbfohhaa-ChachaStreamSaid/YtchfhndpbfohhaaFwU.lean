/- Loops of a known number of rounds, walked round by round. No conditions. -/
import Derived.Test.YtchfhndpbfohhaaFwK
import Derived.LoopNIn
namespace Go.Proofs.Ytchfhndpbfohhaa.Fw
set_option linter.unusedVariables false
set_option linter.unusedSimpArgs false
open Go.RowKit Bv
def LoopK (F : Fence) (n : Nat) (P : Program) (nrm ret : Jd) (ex : List (Nat × Jd)) (x : Code) : Nat → Jd
  | 0 => fun _ _ => False
  | m + 1 => Wp F n P ⟨LoopK F n P nrm ret ex x m, ret, ex⟩ x
section
variable {F : Fence} {n : Nat} {P : Program} {X : Cx} {s : List (Nat × Value)} {h : List HA} {nrm ret : Jd} {ex : List (Nat × Jd)} {x : Code}
theorem T_rounds (m : Nat) (hh : Tr X s h (LoopK F n P nrm ret ex x m)) : Tr X s h (Wp F n P ⟨nrm, ret, ex⟩ (.loop x)) := fun a w st => by
  refine wpIn_loop_rounds m ?_
  have key : ∀ m a w, LoopK F n P nrm ret ex x m a w → Code.roundsIn F n P x (toQ ⟨nrm, ret, ex⟩) m a w := by
    intro m
    induction m with
    | zero => intro a w h; exact h.elim
    | succ m ih => intro a w h; exact wpIn_mono h (fun e a w hq => by cases e <;> first | exact ih _ _ hq | exact hq)
  exact key m a w (hh a w st)
theorem T_round {m : Nat} (hh : Tr X s h (Wp F n P ⟨LoopK F n P nrm ret ex x m, ret, ex⟩ x)) : Tr X s h (LoopK F n P nrm ret ex x (m + 1)) := hh
end
section
variable {P : Program} {s : List (Nat × Value)} {h : List HA} {o : Oper}
theorem pr_eqb {t t2 : TypeId} {x y : Operand} {a b c : Bool} (hc : (a == b) = c) (ht : P.underlying t = some .bool) (ho : o.op = .binOp .eql t x y t2) (hx : ev s x = some (.bool a)) (hy : ev s y = some (.bool b)) : Pr P s h o (.bool c) := fun e he w hw w' => by
  unfold execOp; rw [ho]
  simp only [he _ _ hx, he _ _ hy]
  have hg : (eqGuard .eql t x y (.bool a) (.bool b)).run P w' = .ok () w' := by unfold eqGuard; simp
  rw [Sem.run_bind, Sem.run_bind, hg]
  subst hc
  simp [binOp, run_equal_bool w' t a b ht]
theorem pr_neb {t t2 : TypeId} {x y : Operand} {a b c : Bool} (hc : (a != b) = c) (ht : P.underlying t = some .bool) (ho : o.op = .binOp .neq t x y t2) (hx : ev s x = some (.bool a)) (hy : ev s y = some (.bool b)) : Pr P s h o (.bool c) := fun e he w hw w' => by
  unfold execOp; rw [ho]
  simp only [he _ _ hx, he _ _ hy]
  have hg : (eqGuard .neq t x y (.bool a) (.bool b)).run P w' = .ok () w' := by unfold eqGuard; simp
  rw [Sem.run_bind, Sem.run_bind, hg]
  subst hc
  simp [binOp, run_equal_bool w' t a b ht, bne]
end
end Go.Proofs.Ytchfhndpbfohhaa.Fw
