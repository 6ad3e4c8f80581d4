/- What the helpers of the statements answer: copies, comparisons. Condition: lengths below 2^46. -/
import Derived.Test.YtchfhndpbfohhaaProg
import Derived.Test.YtchfhndpbfohhaaMem
import Derived.Test.YtchfhndpbfohhaaCt
import Derived.Outline
import Derived.LoopTactic
import Derived.Deep.QuietTactic
import Derived.BigQuiet
import Derived.KernelRfl
import Derived.Lib.ConvBytes
import Derived.Laws.BytesArg
namespace Go.Proofs.Ytchfhndpbfohhaa
set_option linter.unusedVariables false
set_option linter.unusedSimpArgs false
open Go.RowKit Bv
attribute [local go_sem] n8_beq n8_bne xor8 xorl8 or8 cv8_64

theorem info8 : (Try.prog.info? 5).map (fun i => (i.zero, i.size, i.bytes)) = some (some (.int .u8 0), 1, 1) := by kernel_rfl
theorem b8_one (x : BitVec 8) : (b8 x).oneCell' = true := rfl

/-- A slice of bytes in new memory. -/
def Fresh (w : World) (n : Nat) (xs : List (BitVec 8)) (e : Ending) (w' : World) : Prop :=
  ∃ A c, e = .returned (.slice A n c) ∧ w'.ownsRow w.heap.size 5 1 (.slice A n c) n (xs.map b8) ∧ Below w.heap.size w w'

theorem copy_any (A : Option Addr) (n c : Nat) (xs : List (BitVec 8)) (w : World) (h : Rd b8 w A n c xs) (hn : n ≤ 70368744177664) :
    Calls Try.prog 23 #[.slice A n c] w (Fresh w n xs) := by
  obtain ⟨i0, hi, hz0, hz1, hz2⟩ := info_parts info8
  have H := Lib.hid h
  clear h
  go_enter Try.func23, Try.ntmps23
  go_wp2_with (at_builtin; refine wpList_append_rd b8_one rfl _ _ 32 rfl w.heap.size 5 i0 (.int .u8 0) 1 Try.underlying32 hi hz0 hz1 hz2 rfl (.slice none 0 0) 0 [] rfl (World.ownsRow_nil _ _ _ _) A n c xs rfl H.out (by unfold maxLen; omega) (by omega) (Nat.le_refl _) ?_; intro A' c' w' hown hg)
  go_ret
  simp only [Nat.zero_add, List.nil_append] at hown
  exact ⟨A', c', by simp, hown, grown_below hg (by intro k hk; cases hk) (Nat.le_refl _)⟩

/-- 1, if two texts are alike, else 0. -/
def eqb (xs ys : List (BitVec 8)) : BitVec 64 := if xs = ys then 1#64 else 0#64
/-- What is found different among the first k. -/
def dif (xs ys : List (BitVec 8)) : Nat → BitVec 8
  | 0 => 0
  | k + 1 => dif xs ys k ||| (ath xs k ^^^ ath ys k)
theorem or_zero8 (a b : BitVec 8) : a ||| b = 0#8 ↔ a = 0#8 ∧ b = 0#8 := by
  constructor
  · intro h
    constructor
    · apply BitVec.eq_of_getLsbD_eq
      intro i hi
      have := congrArg (fun z : BitVec 8 => z.getLsbD i) h
      simp at this
      simp [this.1]
    · apply BitVec.eq_of_getLsbD_eq
      intro i hi
      have := congrArg (fun z : BitVec 8 => z.getLsbD i) h
      simp at this
      simp [this.2]
  · rintro ⟨rfl, rfl⟩; rfl
theorem dif_zero (xs ys : List (BitVec 8)) : ∀ k, dif xs ys k = 0#8 ↔ ∀ j, j < k → ath xs j = ath ys j
  | 0 => by simp [dif]
  | k + 1 => by
    rw [dif, or_zero8, dif_zero xs ys k, BitVec.xor_eq_zero_iff]
    constructor
    · rintro ⟨h1, h2⟩ j hj
      rcases Nat.lt_or_eq_of_le (Nat.le_of_lt_succ hj) with h | rfl
      · exact h1 j h
      · exact h2
    · intro h
      exact ⟨fun j hj => h j (by omega), h k (by omega)⟩
theorem dif_all (xs ys : List (BitVec 8)) (n : Nat) (hx : xs.length = n) (hy : ys.length = n) : CtPure.same ((dif xs ys n).setWidth 64) 0#64 = eqb xs ys := by
  rw [CtPure.same_eq]
  unfold eqb
  congr 1
  rw [eq_iff_iff]
  have h0 : (dif xs ys n).setWidth 64 = 0#64 ↔ dif xs ys n = 0#8 := by
    constructor
    · intro h
      apply BitVec.eq_of_toNat_eq
      have := congrArg BitVec.toNat h
      simp at this
      have := (dif xs ys n).isLt
      simp; omega
    · intro h; rw [h]; rfl
  rw [h0, dif_zero]
  constructor
  · intro h; exact ext_ath (by omega) (fun j hj => h j (by omega))
  · rintro rfl j hj; rfl
/-- The world as it is, some orders having been drawn. -/
def Quiet (w : World) (v : Value) (e : Ending) (w' : World) : Prop := e = .returned v ∧ ∃ m, w.drewN m = w'

theorem equal_any (A B : Option Addr) (n m c d : Nat) (xs ys : List (BitVec 8)) (w : World) (hx : Rd b8 w A n c xs) (hy : Rd b8 w B m d ys) :
    Calls Try.prog 24 #[.slice A n c, .slice B m d] w (Quiet w (b64 (eqb xs ys))) := by
  have hm1 := hx.le
  have hm2 := hx.most
  by_cases hnm : n = m
  · subst hnm
    have hlx := hx.len
    have hly := hy.len
    have HX := Lib.hid hx
    have HY := Lib.hid hy
    have HD := Lib.hid (dif_all xs ys n hlx hly)
    have hsame : Hid (∀ (x : BitVec 64) w, Calls Try.prog 17 #[b64 x, .int .u64 0] w fun e w' => e = .returned (b64 (CtPure.same x 0#64)) ∧ w = w') := Lib.hid (fun x w => same_any x 0#64 w)
    clear hx hy hlx hly
    go_enter Try.func24, Try.ntmps24
    go_wp2
    go_loopw [5, 6, 14] (fun d _ i wr => ∃ k : Nat, k ≤ n ∧ d = b8 (dif xs ys k) ∧ i = .int .i64 k ∧ ∃ q, w.drewN q = wr) (fun _ _ i _ => n - (intOf i).toNat)
    case atStart => exact ⟨0, Nat.zero_le _, rfl, rfl, 0, rfl⟩
    case round =>
      obtain ⟨k, hk2, rfl, rfl, q, rfl⟩ := hrel
      by_cases hk : k < n
      · obtain ⟨ad, rfl, hc1⟩ := HX.out.addr (by omega)
        obtain ⟨ad2, rfl, hc2⟩ := HY.out.addr (by omega)
        have h1 : w.cell? (ad.add k) = some (b8 (ath xs k)) := hc1 k hk
        have h2 : w.cell? (ad2.add k) = some (b8 (ath ys k)) := hc2 k hk
        clear hc1 hc2
        go_wp2
        go_quiet (fail)
        go_wp2
        go_roundw
        case rel => exact ⟨k + 1, by omega, rfl, by go_num, _, rfl⟩
        case measure => simp [intOf]; omega
      · obtain rfl : k = n := by omega
        go_wp2_with (first | ((with_reducible refine (hsame.out ((dif xs ys k).setWidth 64) _).mono ?_); rintro e w' ⟨rfl, rfl⟩))
        go_ret
        exact ⟨congrArg (fun z => Ending.returned (b64 z)) HD.out, q, rfl⟩
  · have hne : ¬ ((n : Int) = (m : Int)) := by omega
    have he : eqb xs ys = 0#64 := by
      unfold eqb
      rw [if_neg]
      intro e
      have := hx.len; have := hy.len; subst e; omega
    rw [he]
    clear hx hy he
    go_enter Try.func24, Try.ntmps24
    go_wp2
    go_ret
    exact ⟨rfl, 0, rfl⟩
end Go.Proofs.Ytchfhndpbfohhaa
