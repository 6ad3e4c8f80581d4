/- What the functions of package ct answer, as numbers. No conditions. -/
import Derived.Test.YtchfhndpbfohhaaProg
import Derived.Test.YtchfhndpbfohhaaBv
import Derived.Test.YtchfhndpbfohhaaCtPure
import Derived.Outline
namespace Go.Proofs.Ytchfhndpbfohhaa
open Go.RowKit Bv
attribute [local go_sem] add64 sub64 neg64 in64 and64 or64 xor64 andNot64 andl64 orl64 xorl64 i64_u64 n64_beq
attribute [local go_sem high] not64 shrl64

theorem less_any (a b : BitVec 64) (w : World) :
    Calls Try.prog 16 #[b64 a, b64 b] w fun e w' => e = .returned (b64 (CtPure.less a b)) ∧ w = w' := by
  go_enter Try.func16, Try.ntmps16
  go_wp2
  go_ret
  exact ⟨rfl, rfl⟩
theorem same_any (a b : BitVec 64) (w : World) :
    Calls Try.prog 17 #[b64 a, b64 b] w fun e w' => e = .returned (b64 (CtPure.same a b)) ∧ w = w' := by
  go_enter Try.func17, Try.ntmps17
  go_wp2
  go_ret
  exact ⟨rfl, rfl⟩
theorem pick_any (c a b : BitVec 64) (w : World) :
    Calls Try.prog 15 #[b64 c, b64 a, b64 b] w fun e w' => e = .returned (b64 (CtPure.pick c a b)) ∧ w = w' := by
  go_enter Try.func15, Try.ntmps15
  go_wp2
  go_ret
  exact ⟨rfl, rfl⟩
theorem below_any (a b : BitVec 64) (w : World) :
    Calls Try.prog 18 #[.int .i64 (i64 a), .int .i64 (i64 b)] w fun e w' => e = .returned (b64 (CtPure.below a b)) ∧ w = w' := by
  go_enter Try.func18, Try.ntmps18
  go_wp2_with (go_at_call 16; refine (less_any _ _ _).mono ?_; rintro e w' ⟨rfl, rfl⟩)
  go_ret
  exact ⟨rfl, rfl⟩
end Go.Proofs.Ytchfhndpbfohhaa
