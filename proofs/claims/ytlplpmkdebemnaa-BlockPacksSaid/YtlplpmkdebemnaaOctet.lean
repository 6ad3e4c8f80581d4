/- What the functions of package octet answer. Condition: lengths below 2^46, counts up to 8. -/
import Derived.Test.YtlplpmkdebemnaaProg
import Derived.Test.YtlplpmkdebemnaaMem
import Derived.Outline
import Derived.LoopTactic
import Derived.KernelRfl
namespace Go.Proofs.Ytlplpmkdebemnaa
set_option linter.unusedVariables false
set_option linter.unusedSimpArgs false
open Go.RowKit Bv
attribute [local go_sem] cv8_64 or64 shlv64 shrv64 cv64_8

theorem oinfo8 : (Try.prog.info? 5).map (fun i => (i.zero, i.size, i.bytes)) = some (some (.int .u8 0), 1, 1) := by kernel_rfl
theorem ob8_one (x : BitVec 8) : (b8 x).oneCell' = true := rfl
/-- The number of the first k bytes, the lowest first. -/
def low (xs : List (BitVec 8)) : Nat → BitVec 64
  | 0 => 0#64
  | k + 1 => low xs k ||| (ath xs k).setWidth 64 <<< (8 * k)
/-- The first k bytes of a number, the lowest first. -/
def lowb (v : BitVec 64) : Nat → List (BitVec 8)
  | 0 => []
  | k + 1 => lowb v k ++ [(v >>> (8 * k)).setWidth 8]
theorem lowb_len (v : BitVec 64) : ∀ k, (lowb v k).length = k
  | 0 => rfl
  | k + 1 => by simp [lowb, lowb_len v k]

theorem low_any (A : Option Addr) (n c m : Nat) (xs : List (BitVec 8)) (w : World) (h : Rd b8 w A n c xs) (hm : m ≤ n) (h8 : m ≤ 8) :
    Calls Try.prog 61 #[.slice A n c, .int .i64 m] w fun e w' => e = .returned (b64 (low xs m)) ∧ w = w' := by
  have H := Lib.hid h
  have hn1 := h.le
  have hn2 := h.most
  clear h
  go_enter Try.func61, Try.ntmps61
  go_wp2
  go_loop [5, 6, 8] (fun v _ i => ∃ k : Nat, k ≤ m ∧ v = b64 (low xs k) ∧ i = .int .i64 k) (fun _ _ i => m - (intOf i).toNat)
  case atStart => exact ⟨0, Nat.zero_le _, rfl, rfl⟩
  case round =>
    obtain ⟨k, hk2, rfl, rfl⟩ := hrel
    by_cases hk : k < m
    · obtain ⟨ad, rfl, hc⟩ := H.out.addr (by omega)
      have h1 := hc k (by omega)
      clear hc
      go_wp2
      go_round
      case rel => exact ⟨k + 1, by omega, rfl, by go_num⟩
      case measure => simp [intOf]; omega
    · obtain rfl : k = m := by omega
      go_wp2
      go_ret
      exact ⟨rfl, rfl⟩

/-- A row of the call's own with so many bytes more. -/
def More (base : Nat) (w : World) (n : Nat) (xs : List (BitVec 8)) (e : Ending) (w' : World) : Prop :=
  ∃ A c, e = .returned (.slice A n c) ∧ w'.ownsRow base 5 1 (.slice A n c) n (xs.map b8) ∧ Below base w w'
theorem putlow_any (A : Option Addr) (n c m base : Nat) (xs : List (BitVec 8)) (v : BitVec 64) (w : World) (h : w.ownsRow base 5 1 (.slice A n c) n (xs.map b8)) (hb : base ≤ w.heap.size) (hn : n ≤ 70368744177664) (h8 : m ≤ 8) :
    Calls Try.prog 60 #[.slice A n c, b64 v, .int .i64 m] w (More base w (n + m) (xs ++ lowb v m)) := by
  obtain ⟨i0, hi, hz0, hz1, hz2⟩ := info_parts oinfo8
  have H := Lib.hid h
  clear h
  go_enter Try.func60, Try.ntmps60
  go_wp2
  go_loopw [0, 7, 9] (fun s _ i wr => ∃ (k : Nat) (A' : Option Addr) (c' : Nat), k ≤ m ∧ s = .slice A' (n + k) c' ∧ i = .int .i64 k ∧ wr.ownsRow base 5 1 (.slice A' (n + k) c') (n + k) ((xs ++ lowb v k).map b8) ∧ Below base w wr) (fun _ _ i _ => m - (intOf i).toNat)
  case atStart => exact ⟨0, A, c, Nat.zero_le _, rfl, rfl, by simpa [lowb] using H.out, Below.refl _ _⟩
  case round =>
    obtain ⟨k, A', c', hk2, rfl, rfl, hown, hbl⟩ := hrel
    have hsz := hbl.size
    have HB := Lib.hid hbl
    have HO := Lib.hid hown
    clear hbl hown
    by_cases hk : k < m
    · go_wp2_with (at_builtin; refine wpList_append_rd ob8_one rfl _ _ 23 rfl base 5 i0 (.int .u8 0) 1 Try.underlying23 hi hz0 hz1 hz2 rfl (.slice A' (n + k) c') (n + k) ((xs ++ lowb v k).map b8) rfl (HO.out.alloc _) (some ⟨wr.heap.size, 0, none⟩) 1 1 [(v >>> (8 * k)).setWidth 8] rfl (Rd.one _ _ 5) (by unfold maxLen; omega) (by omega) (by simp; omega) ?_; intro A3 c3 w3 hown3 hg3)
      have hB3 : Hid (Below base w w3) := Lib.hid ((HB.out.alloc (by omega) _).grown hg3 (by simp; omega) (own_block HO.out))
      have HO3 := Lib.hid hown3
      clear hown3 hg3
      go_wp2
      go_roundw
      case rel => exact ⟨k + 1, A3, c3, by omega, rfl, by go_num, by have := HO3.out; simpa [lowb, Nat.add_assoc] using this, hB3.out⟩
      case measure => simp [intOf]; omega
    · obtain rfl : k = m := by omega
      go_wp2
      go_ret
      exact ⟨A', c', rfl, HO.out, HB.out⟩
end Go.Proofs.Ytlplpmkdebemnaa
