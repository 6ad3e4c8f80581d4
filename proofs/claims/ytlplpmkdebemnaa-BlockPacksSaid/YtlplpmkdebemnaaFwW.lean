/- A walk by facts: numbers shifted to the right. No conditions. -/
import Derived.Test.YtlplpmkdebemnaaFwV
namespace Go.Proofs.Ytlplpmkdebemnaa.Fw
set_option linter.unusedVariables false
set_option linter.unusedSimpArgs false
open Go.RowKit Bv
theorem nshr_i64 {a m : Nat} (hm : m < 64) : Op.shift .shr .i64 (a : Int) .u64 (m : Int) = pure (.int .i64 ((a / 2 ^ m : Nat) : Int)) := by
  have h1 : ¬ ((m : Int) < 0) := by omega
  have h2 : min (m : Int).toNat (IntKind.bits .i64) = m := by
    have : (m : Int).toNat = m := rfl
    rw [this]; show min m 64 = m; omega
  unfold Op.shift
  rw [if_neg h1]
  simp only [h2]
  have e : ((2 : Int) ^ m) = ((2 ^ m : Nat) : Int) := by simp
  rw [e, Int.fdiv_eq_ediv_of_nonneg _ (Int.natCast_nonneg _), ← Int.natCast_ediv]
end Go.Proofs.Ytlplpmkdebemnaa.Fw
