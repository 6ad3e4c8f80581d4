/- Arrays of bytes held against each other, in a loud walk. No conditions. -/
import Derived.Test.YtchfhndpbfohhaaLoud
import Derived.Test.YtchfhndpbfohhaaArrEq
import Derived.Test.YtchfhndpbfohhaaChBlock
namespace Go.Proofs.Ytchfhndpbfohhaa
set_option linter.unusedVariables false
set_option linter.unusedSimpArgs false
open Go.RowKit Bv
theorem eg64 : Program.eqGuardType Try.prog (Program.depth Try.prog) 51 = false := by kernel_rfl
section
variable {P : Program} {a : Act} {o : Oper} {C : World → Prop} {K : Act → Prop}
theorem run_op_neq_arr {ty e ty2 : TypeId} {n : Nat} {x y : Operand} {xs ys : List (BitVec 8)} (w : World) (ho : o.op = .binOp .neq ty x y ty2) (hx : a.eval x = .agg (xs.map b8).toArray) (hy : a.eval y = .agg (ys.map b8).toArray)
    (ht : P.underlying ty = some (.array n e)) (he : P.underlying e = some (.int .u8)) (hs : (P.info? e).map (·.size) = some 1) (hg : Program.eqGuardType P (Program.depth P) ty = false) (hlx : xs.length = n) (hly : ys.length = n) :
    (execOp a.eval o).run P w = .ok (.value (.bool (!(xs == ys)))) w := by
  unfold execOp
  simp only [ho, hx, hy, Sem.run_bind, run_eqGuard_agg w _ _ _ _ _ _ hg, Result.andThen_ok, run_neq_arr w ty e n xs ys ht he hs hlx hly, Sem.run_pure]
theorem quiet_neq_arr {ty e ty2 : TypeId} {n : Nat} {x y : Operand} {xs ys : List (BitVec 8)} (ho : o.op = .binOp .neq ty x y ty2) (hx : a.eval x = .agg (xs.map b8).toArray) (hy : a.eval y = .agg (ys.map b8).toArray)
    (ht : P.underlying ty = some (.array n e)) (he : P.underlying e = some (.int .u8)) (hs : (P.info? e).map (·.size) = some 1) (hg : Program.eqGuardType P (Program.depth P) ty = false) (hlx : xs.length = n) (hly : ys.length = n)
    (h : K (a.put o.dst (.bool (!(xs == ys))))) : o.quiet P a C K :=
  ⟨_, fun w _ => by unfold Oper.quietAt; rw [run_op_neq_arr w ho hx hy ht he hs hg hlx hly]; exact ⟨rfl, rfl⟩, h⟩
theorem wpList_neq_arr {ops : Array Oper} {rest : List Oper} {Q : Exit → Act → World → Prop} {w : World} {ty e ty2 : TypeId} {n : Nat} {x y : Operand} {xs ys : List (BitVec 8)} (hgd : Region.wanted o (yielded ops a.tmps) = true) (ho : o.op = .binOp .neq ty x y ty2) (hx : a.eval x = .agg (xs.map b8).toArray) (hy : a.eval y = .agg (ys.map b8).toArray)
    (ht : P.underlying ty = some (.array n e)) (he : P.underlying e = some (.int .u8)) (hs : (P.info? e).map (·.size) = some 1) (hg : Program.eqGuardType P (Program.depth P) ty = false) (hlx : xs.length = n) (hly : ys.length = n)
    (h : wpList P ops Q rest (a.put o.dst (.bool (!(xs == ys)))) w) : wpList P ops Q (o :: rest) a w :=
  wpList_want hgd fun K hK => by unfold Oper.wp; rw [run_op_neq_arr w ho hx hy ht he hs hg hlx hly]; exact hK _ _ h
end
end Go.Proofs.Ytchfhndpbfohhaa
