/- A walk by facts: four results. No conditions. -/
import Derived.Test.YtlplpmkdebemnaaFwW
namespace Go.Proofs.Ytlplpmkdebemnaa.Fw
set_option linter.unusedVariables false
set_option linter.unusedSimpArgs false
open Go.RowKit Bv
theorem res4 {P : Program} {s : List (Nat × Value)} {h : List HA} {fn : Func} {t u q r : Nat} {v v' v'' v3 : Value} (hr : fn.results = #[.tmp t, .tmp u, .tmp q, .tmp r]) (hv : s.lookup t = some v) (hv' : s.lookup u = some v') (hv'' : s.lookup q = some v'') (hv3 : s.lookup r = some v3) : ResV P fn s h (.tuple #[v, v', v'', v3]) := fun tmps hs w hw => by
  simp [results, hr, go_sem, Array.getD_eq_getD_getElem?, hs t v hv, hs u v' hv', hs q v'' hv'', hs r v3 hv3]
end Go.Proofs.Ytlplpmkdebemnaa.Fw
