/- The walk of the law CtPicks. No conditions. -/
import Derived.Test.YtchfhndpbfohhaaWalkCtNums
import Derived.Test.YtchfhndpbfohhaaRd
import Derived.LoopTactic
import Derived.Deep.QuietTactic
import Derived.BigQuiet
namespace Go.Proofs.Ytchfhndpbfohhaa
open Go.RowKit Bv
attribute [local go_sem] add64 sub64 neg64 in64 and64 or64 xor64 andNot64 andl64 orl64 xorl64 i64_u64 n64_beq
attribute [local go_sem high] not64 shrl64

def mn (x y : BitVec 64) : BitVec 64 := if y < x then y else x
theorem pick_less (x y : BitVec 64) : CtPure.pick (CtPure.less y x) y x = mn x y := by
  rw [CtPure.pick_eq, CtPure.less_eq]
  unfold mn
  by_cases h : y < x
  · simp [h]
  · simp [h]
theorem n64_min (x y : BitVec 64) : (if n64 y < n64 x then n64 y else n64 x) = n64 (mn x y) := by
  unfold mn
  by_cases h : y < x
  · rw [if_pos h, if_pos ((n64_lt y x).2 h)]
  · rw [if_neg h, if_neg (fun e => h ((n64_lt y x).1 e))]

/-- The least of the first k (of none: the first). -/
def lst (xs : List (BitVec 64)) : Nat → BitVec 64
  | 0 => ath xs 0
  | k + 1 => mn (lst xs k) (ath xs k)
theorem lst_one (xs : List (BitVec 64)) : lst xs 1 = ath xs 0 := by simp [lst, mn]

theorem picks_some (ad : Addr) (len cap : Nat) (xs : List (BitVec 64)) (w : World) (h0 : 0 < len) (h5 : len ≤ 500)
    (hc : ∀ j, j < len → w.cell? (ad.add j) = some (b64 (ath xs j))) :
    Calls Try.prog 3 #[.slice (some ad) len cap] w fun e w' => e = .returned (.bool true) ∧ Below w.heap.size w w' := by
  have hl0 : ((len : Int) == 0) = false := by simp; omega
  have hl5 : decide (500 < (len : Int)) = false := by simp; omega
  have hc0 : w.cell? ad = some (b64 (ath xs 0)) := by have := hc 0 (by omega); rwa [add0] at this
  have d0 := Lib.hid awake01
  have HC := Lib.hid hc
  have hlt := Lib.hid (lst_one xs)
  clear hc
  go_enter Try.func3, Try.ntmps3
  go_wp2
  go_quiet (fail)
  go_wp2
  go_loopw [3, 4, 5] (fun x y i wr => ∃ k : Nat, 1 ≤ k ∧ k ≤ len ∧ x = b64 (lst xs k) ∧ y = b64 (lst xs k) ∧ i = .int .i64 k ∧ Below w.heap.size w wr) (fun _ _ i _ => len - (intOf i).toNat)
  case atStart => exact ⟨1, by omega, by omega, congrArg b64 hlt.out.symm, congrArg b64 hlt.out.symm, rfl, below_drewN (Below.refl _ _) _⟩
  case round =>
    obtain ⟨k, hk1, hk2, rfl, rfl, rfl, hb⟩ := hrel
    by_cases hk : k < len
    · have hck : wr.cell? (ad.add k) = some (b64 (ath xs k)) := (hb.cell (World.block_lt_of_cell? w _ (HC.out k hk))).trans (HC.out k hk)
      have e1 := Lib.hid (pick_less (lst xs k) (ath xs k))
      have e2 := Lib.hid (show lst xs (k + 1) = mn (lst xs k) (ath xs k) from rfl)
      have c1 := Lib.hid (fun w => less_any (ath xs k) (lst xs k) w)
      have c2 := Lib.hid (fun w => pick_any (CtPure.less (ath xs k) (lst xs k)) (ath xs k) (lst xs k) w)
      go_wp2
      go_quiet ((first | ((with_reducible refine quiet_eq (c1.out _))) | ((with_reducible refine quiet_eq (c2.out _)))))
      go_wp2
      go_roundw
      case rel => exact ⟨k + 1, by omega, by omega, by rw [e2.out, ← e1.out], by rw [e2.out, n64_min], by go_num, below_drewN hb _⟩
      case measure => simp [intOf]; omega
    · go_wp2_with ((with_reducible refine (d0.out _).mono ?_); rintro e w' ⟨rfl, rfl⟩)
      go_ret
      exact ⟨rfl, hb⟩

theorem CtPicks_walk (A : Option Addr) (len cap : Nat) (xs : List (BitVec 64)) (w : World) (lc : len ≤ cap) (h : Rd b64 w A len xs) :
    Calls Try.prog 3 #[.slice A len cap] w fun e w' => e = .returned (.bool true) ∧ Below w.heap.size w w' := by
  by_cases h0 : len = 0
  · subst h0
    have d0 := Lib.hid awake01
    clear h lc
    go_enter Try.func3, Try.ntmps3
    go_wp2_with ((with_reducible refine (d0.out _).mono ?_); rintro e w' ⟨rfl, rfl⟩)
    go_ret
    exact ⟨rfl, Below.refl _ _⟩
  · by_cases h5 : len ≤ 500
    · obtain ⟨ad, rfl, hc⟩ := h.2.2 (by omega)
      exact picks_some ad len cap xs w (by omega) h5 hc
    · have hl0 : ((len : Int) == 0) = false := by simp; omega
      have hl5 : decide (500 < (len : Int)) = true := by simp; omega
      have d0 := Lib.hid awake01
      clear h lc h0
      go_enter Try.func3, Try.ntmps3
      go_wp2_with ((with_reducible refine (d0.out _).mono ?_); rintro e w' ⟨rfl, rfl⟩)
      go_ret
      exact ⟨rfl, Below.refl _ _⟩
end Go.Proofs.Ytchfhndpbfohhaa
