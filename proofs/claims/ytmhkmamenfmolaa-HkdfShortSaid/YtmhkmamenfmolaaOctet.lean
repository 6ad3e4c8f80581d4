/- What the functions of package octet answer. Condition: lengths below 2^46, counts up to 8. -/
import Derived.Test.YtmhkmamenfmolaaProg
import Derived.Test.YtmhkmamenfmolaaMem
import Derived.Outline
import Derived.LoopTactic
import Derived.KernelRfl
namespace Go.Proofs.Ytmhkmamenfmolaa
set_option linter.unusedVariables false
set_option linter.unusedSimpArgs false
open Go.RowKit Bv
attribute [local go_sem] cv8_64 or64 shlv64 shrv64 cv64_8

theorem oinfo8 : (Try.prog.info? 5).map (fun i => (i.zero, i.size, i.bytes)) = some (some (.int .u8 0), 1, 1) := by kernel_rfl
theorem ob8_one (x : BitVec 8) : (b8 x).oneCell' = true := rfl
/-- The number of the first k bytes, the lowest first. -/
def low (xs : List (BitVec 8)) : Nat → BitVec 64
  | 0 => 0#64
  | k + 1 => low xs k ||| (ath xs k).setWidth 64 <<< (8 * k)
/-- The first k bytes of a number, the lowest first. -/
def lowb (v : BitVec 64) : Nat → List (BitVec 8)
  | 0 => []
  | k + 1 => lowb v k ++ [(v >>> (8 * k)).setWidth 8]
theorem lowb_len (v : BitVec 64) : ∀ k, (lowb v k).length = k
  | 0 => rfl
  | k + 1 => by simp [lowb, lowb_len v k]


/-- A row of the call's own with so many bytes more. -/
def More (base : Nat) (w : World) (n : Nat) (xs : List (BitVec 8)) (e : Ending) (w' : World) : Prop :=
  ∃ A c, e = .returned (.slice A n c) ∧ w'.ownsRow base 5 1 (.slice A n c) n (xs.map b8) ∧ Below base w w'
end Go.Proofs.Ytmhkmamenfmolaa
