/- What chacha's state answers. No conditions. -/
import Derived.Test.YtchfhndpbfohhaaChacha
import Derived.Test.YtchfhndpbfohhaaOctet
import Derived.Test.YtchfhndpbfohhaaArr
import Derived.LoopTactic
import Derived.Deep.DeepCutAuto
import Derived.Deep.CutBlock
namespace Go.Proofs.Ytchfhndpbfohhaa
set_option linter.unusedVariables false
set_option linter.unusedSimpArgs false
open Go.RowKit Bv
attribute [local go_sem] add32 sub32 xor32 or32 n32_beq cv64_32 cv32_64

/-- The word of four bytes from a place on. -/
def le32 (xs : List (BitVec 8)) (o : Nat) : BitVec 32 := (low (xs.drop o) 4).setWidth 32
def st0 : List (BitVec 32) := [1634760805#32, 857760878#32, 2036477234#32, 1797285236#32, 0#32, 0#32, 0#32, 0#32, 0#32, 0#32, 0#32, 0#32, 0#32, 0#32, 0#32, 0#32]
/-- What a block begins with: behind k words of the key. -/
def stA (key : List (BitVec 8)) : Nat → List (BitVec 32)
  | 0 => st0
  | k + 1 => (stA key k).set (4 + k) (le32 key (4 * k))
/-- .. behind the counter, and k words of the nonce. -/
def stB (key : List (BitVec 8)) (ctr : BitVec 32) (nonce : List (BitVec 8)) : Nat → List (BitVec 32)
  | 0 => (stA key 8).set 12 ctr
  | k + 1 => (stB key ctr nonce k).set (13 + k) (le32 nonce (4 * k))
theorem stA_len (key : List (BitVec 8)) : ∀ k, (stA key k).length = 16
  | 0 => rfl
  | k + 1 => by simp [stA, stA_len key k]
theorem stB_len (key : List (BitVec 8)) (ctr : BitVec 32) (nonce : List (BitVec 8)) : ∀ k, (stB key ctr nonce k).length = 16
  | 0 => by simp [stB, stA_len]
  | k + 1 => by simp [stB, stB_len key ctr nonce k]
def zero16 : List (BitVec 32) := List.replicate 16 0#32
/-- An array in new memory. -/
def ArrE (w : World) (v : Value) (e : Ending) (w' : World) : Prop := e = .returned v ∧ Below w.heap.size w w'

theorem low4 (A : Option Addr) (n c : Nat) (xs : List (BitVec 8)) (w : World) (h : Rd b8 w A n c xs) (hm : 4 ≤ n) :
    Calls Try.prog 54 #[.slice A n c, .int .i64 4] w fun e w' => e = .returned (b64 (low xs 4)) ∧ w = w' := low_any A n c 4 xs w h hm (by omega)
theorem low_take (xs : List (BitVec 8)) (n : Nat) : ∀ k, k ≤ n → low (xs.take n) k = low xs k
  | 0, _ => rfl
  | k + 1, h => by rw [low, low, low_take xs n k (by omega), ath_take xs n k (by omega)]

theorem state_any (key nonce : List (BitVec 8)) (ctr : BitVec 32) (w : World) (hk : key.length = 32) (hn : nonce.length = 12) :
    Calls Try.prog 46 #[.agg (key.map b8).toArray, b32 ctr, .agg (nonce.map b8).toArray] w (ArrE w (.agg ((stB key ctr nonce 3).map b32).toArray)) := by
  have HK := Lib.hid hk
  have HN := Lib.hid hn
  have lA := Lib.hid (stA_len key)
  have lB := Lib.hid (stB_len key ctr nonce)
  clear hk hn
  go_enter Try.func46, Try.ntmps46
  go_wp2
  go_loopw [8, 11] (fun _ i wr => ∃ k : Nat, k ≤ 8 ∧ i = .int .i64 k ∧ Blk wr w.heap.size 49 (key.map b8) ∧ Blk wr (w.heap.size + 1) 50 (nonce.map b8) ∧ Blk wr (w.heap.size + 1 + 1) 64 (zero16.map b32) ∧
    Blk wr (w.heap.size + 1 + 1 + 1) 64 ((stA key k).map b32) ∧ Below w.heap.size w wr) (fun _ i _ => 8 - (intOf i).toNat)
  case atStart =>
    refine ⟨0, by omega, rfl, ?_, ?_, ?_, ?_, ?_⟩
    · exact (((blk_new w _ _ _ rfl).alloc _).alloc _).alloc _
    · exact ((blk_new (w.alloc _) _ _ _ (by simp)).alloc _).alloc _
    · exact (blk_new ((w.alloc _).alloc _) _ _ _ (by simp)).alloc _
    · exact blk_new (((w.alloc _).alloc _).alloc _) _ _ _ (by simp)
    · exact ((((Below.refl _ _).alloc (Nat.le_refl _) _).alloc (by simp) _).alloc (by simp; omega) _).alloc (by simp; omega) _
  case round =>
    obtain ⟨k, hk8, rfl, h1, h2, h3, h4, hb⟩ := hrel
    have H1 := Lib.hid h1; have H2 := Lib.hid h2; have H3 := Lib.hid h3; have H4 := Lib.hid h4; have HB := Lib.hid hb
    clear h1 h2 h3 h4 hb
    by_cases hk : k < 8
    · have hrd := Lib.hid (blk_part H1.out (4 * k) (32 - 4 * k) (32 - 4 * k) (by rw [HK.out]; omega) (Nat.le_refl _) (by omega))
      have hcl := blk_cell H4.out (4 + k) (by rw [lA.out]; omega)
      have hfr := H4.out.frozen (4 + k)
      have hsl := sliceAt_from (P := Try.prog) wr 49 w.heap.size 32 (4 * k) 5 (4 * (k : Int)) Try.underlying49 (by kernel_rfl) (by omega) (by omega)
      have hlow := low4 (some ⟨w.heap.size, 4 * k, none⟩) (32 - 4 * k) (32 - 4 * k) _ wr hrd.out (by omega)
      rw [low_take _ _ 4 (by omega)] at hlow
      have HLOW := Lib.hid hlow
      clear hlow
      go_wp2_with fail
      refine HLOW.out.mono ?_
      rintro e w' ⟨rfl, rfl⟩
      go_wp2
      go_roundw
      case rel =>
        have ho := only_setCell wr (w.heap.size + 1 + 1 + 1) (4 + k) (b32 (le32 key (4 * k)))
        exact ⟨k + 1, by omega, by go_num, H1.out.only ho (by omega), H2.out.only ho (by omega), H3.out.only ho (by omega), blk_set H4.out (4 + k) (le32 key (4 * k)), ho.below HB.out (by omega)⟩
      case measure => simp [intOf]; omega
    · obtain rfl : k = 8 := by omega
      have hcl := blk_cell H4.out 12 (by rw [lA.out]; omega)
      have hfr := H4.out.frozen 12
      go_wp2
      go_loopw [9, 25] (fun _ i wr => ∃ k : Nat, k ≤ 3 ∧ i = .int .i64 k ∧ Blk wr (w.heap.size + 1) 50 (nonce.map b8) ∧ Blk wr (w.heap.size + 1 + 1) 64 (zero16.map b32) ∧
        Blk wr (w.heap.size + 1 + 1 + 1) 64 ((stB key ctr nonce k).map b32) ∧ Below w.heap.size w wr) (fun _ i _ => 3 - (intOf i).toNat)
      case atStart =>
        have ho := only_setCell wr (w.heap.size + 1 + 1 + 1) 12 (b32 ctr)
        exact ⟨0, by omega, rfl, H2.out.only ho (by omega), H3.out.only ho (by omega), blk_set H4.out 12 ctr, ho.below HB.out (by omega)⟩
      case round =>
        obtain ⟨k, hk8, rfl, h2, h3, h4, hb⟩ := hrel
        clear H1 H2 H3 H4 HB hcl hfr hk
        have H2 := Lib.hid h2; have H3 := Lib.hid h3; have H4 := Lib.hid h4; have HB := Lib.hid hb
        clear h2 h3 h4 hb
        by_cases hk : k < 3
        · have hrd := Lib.hid (blk_part H2.out (4 * k) (12 - 4 * k) (12 - 4 * k) (by rw [HN.out]; omega) (Nat.le_refl _) (by omega))
          have hcl := blk_cell H4.out (13 + k) (by rw [lB.out]; omega)
          have hfr := H4.out.frozen (13 + k)
          have hsl := sliceAt_from (P := Try.prog) wr 50 (w.heap.size + 1) 12 (4 * k) 5 (4 * (k : Int)) Try.underlying50 (by kernel_rfl) (by omega) (by omega)
          have hlow := low4 (some ⟨w.heap.size + 1, 4 * k, none⟩) (12 - 4 * k) (12 - 4 * k) _ wr hrd.out (by omega)
          rw [low_take _ _ 4 (by omega)] at hlow
          have HLOW := Lib.hid hlow
          clear hlow
          go_wp2_with fail
          refine HLOW.out.mono ?_
          rintro e w' ⟨rfl, rfl⟩
          go_wp2
          go_roundw
          case rel =>
            have ho := only_setCell wr (w.heap.size + 1 + 1 + 1) (13 + k) (b32 (le32 nonce (4 * k)))
            repeat apply Exists.intro
            exact ⟨⟨k + 1, by omega, by go_num, H2.out.only ho (by omega), H3.out.only ho (by omega), blk_set H4.out (13 + k) (le32 nonce (4 * k)), ho.below HB.out (by omega)⟩, rfl⟩
          case measure => simp [intOf]; omega
        · obtain rfl : k = 3 := by omega
          clear hk
          go_upto_region 13 with (fail)
          apply wp_region_lit
          refine wpList_load_blk rfl rfl rfl H4.out Try.underlying64 (by rw [List.length_map, lB.out]; kernel_rfl) ?_
          refine wpList_store_blk rfl rfl rfl rfl H3.out (by rw [List.length_map, lB.out]; kernel_rfl) (by rw [List.length_map, List.length_map, lB.out]; rfl) (b32s_one _) ?_
          intro w' h5 ho
          go_wp2
          exact bodyPost_end (results_blk rfl _ rfl h5 Try.underlying64 (by rw [List.length_map, lB.out]; kernel_rfl)) rfl ⟨rfl, ho.below HB.out (by omega)⟩
end Go.Proofs.Ytchfhndpbfohhaa
