/- A walk by facts: calls that the model answers itself; three results. No conditions. -/
import Derived.Test.YtlplpmkdebemnaaFwU
import Derived.Laws.Externs
namespace Go.Proofs.Ytlplpmkdebemnaa.Fw
set_option linter.unusedVariables false
set_option linter.unusedSimpArgs false
open Go.RowKit Bv
section
variable {P : Program} {s : List (Nat × Value)} {h : List HA} {o : Oper} {v : Value}
/-- A call that the model answers itself. -/
theorem pr_extern {f : FuncId} {c : Operand} {xs : List Operand} {ts : Array TypeId} {vs : List Value} (hv : ∀ w, (callFunc f vs.toArray).run P w = .ok (.value v) w)
    (ho : o.op = .call { callee := .value c, args := xs.toArray, argTypes := ts }) (hc : ev s c = some (.func (.func f) #[] #[])) (hx : xs.map (ev s) = vs.map some) : Pr P s h o v := fun e he w hw w' => by
  have key : ∀ (l : List Operand) (r : List Value), l.map (ev s) = r.map some → l.map e = r := by
    intro l
    induction l with
    | nil => intro r hr; cases r with | nil => rfl | cons _ _ => simp at hr
    | cons a l ih => intro r hr; cases r with
      | nil => simp at hr
      | cons b r => simp only [List.map_cons, List.cons.injEq] at hr ⊢; exact ⟨he _ _ hr.1, ih r hr.2⟩
  unfold execOp; rw [ho]
  simp [resolve, he _ _ hc, Deferred.ofValue, invoke, key xs vs hx, hv w']
theorem res3 {fn : Func} {t u q : Nat} {v v' v'' : Value} (hr : fn.results = #[.tmp t, .tmp u, .tmp q]) (hv : s.lookup t = some v) (hv' : s.lookup u = some v') (hv'' : s.lookup q = some v'') : ResV P fn s h (.tuple #[v, v', v'']) := fun tmps hs w hw => by
  simp [results, hr, go_sem, Array.getD_eq_getD_getElem?, hs t v hv, hs u v' hv', hs q v'' hv'']
end
theorem add64_ext {P : Program} {f : FuncId} {fn : Func} (hf : P.funcs[f]? = some fn) (h1 : (fn.name == "runtime.NumGoroutine") = false) (h2 : fn.body.isNone = true) (h3 : Extern.findNext fn = none) (h4 : Extern.find fn = some add64Entry) (x y c : BitVec 64) (hc : c.toNat ≤ 1) :
    ∃ s d : BitVec 64, s.toNat + 18446744073709551616 * d.toNat = x.toNat + y.toNat + c.toNat ∧ d.toNat ≤ 1 ∧ ∀ w, (callFunc f [b64 x, b64 y, b64 c].toArray).run P w = .ok (.value (.tuple [b64 s, b64 d].toArray)) w := by
  have hx := x.isLt
  have hy := y.isLt
  refine ⟨BitVec.ofNat 64 (x.toNat + y.toNat + c.toNat), BitVec.ofNat 64 ((x.toNat + y.toNat + c.toNat) / 18446744073709551616), ?_, ?_, fun w => ?_⟩
  · rw [BitVec.toNat_ofNat, BitVec.toNat_ofNat]; omega
  · rw [BitVec.toNat_ofNat]; omega
  · have h := run_callFunc_extern hf h1 h2 h3 h4 [b64 x, b64 y, b64 c].toArray w
    rw [h]
    have := run_add64 (P := P) (x.toNat : Int) (y.toNat : Int) (c.toNat : Int) (by omega) (by omega) (by omega) (by omega) w
    show ((add64Entry #[.int .u64 (x.toNat : Int), .int .u64 (y.toNat : Int), .int .u64 (c.toNat : Int)]).run P w).andThen _ = _
    have e1 : ((x.toNat : Int) + (y.toNat : Int) + (c.toNat : Int)) % 18446744073709551616 = n64 (BitVec.ofNat 64 (x.toNat + y.toNat + c.toNat)) := by
      unfold n64; rw [BitVec.toNat_ofNat]; omega
    have e2 : ((x.toNat : Int) + (y.toNat : Int) + (c.toNat : Int)) / 18446744073709551616 = n64 (BitVec.ofNat 64 ((x.toNat + y.toNat + c.toNat) / 18446744073709551616)) := by
      unfold n64; rw [BitVec.toNat_ofNat]; omega
    rw [this, e1, e2]
    rfl
end Go.Proofs.Ytlplpmkdebemnaa.Fw
