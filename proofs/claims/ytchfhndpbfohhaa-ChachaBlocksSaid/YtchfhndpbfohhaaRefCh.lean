/- What the reference's quarter round, word and round of chapter 05 answer. No conditions. -/
import Derived.Test.YtchfhndpbfohhaaChBlock
import Derived.Test.YtchfhndpbfohhaaChPure
import Derived.Test.YtchfhndpbfohhaaReg
import Derived.Deep.QuietTactic
import Derived.BigQuiet
namespace Go.Proofs.Ytchfhndpbfohhaa
set_option linter.unusedVariables false
set_option linter.unusedSimpArgs false
open Go.RowKit Bv
section
attribute [local go_sem high] shrl32 shll32
attribute [local go_sem] or32 cv8_32
theorem left16 (x : BitVec 32) (w : World) : Calls Try.prog 45 #[b32 x, .int .i64 16] w fun e w' => e = .returned (b32 (rol x 16)) ∧ w = w' := by
  go_enter Try.func45, Try.ntmps45
  go_wp2
  go_ret
  exact ⟨rfl, rfl⟩
theorem left12 (x : BitVec 32) (w : World) : Calls Try.prog 45 #[b32 x, .int .i64 12] w fun e w' => e = .returned (b32 (rol x 12)) ∧ w = w' := by
  go_enter Try.func45, Try.ntmps45
  go_wp2
  go_ret
  exact ⟨rfl, rfl⟩
theorem left8 (x : BitVec 32) (w : World) : Calls Try.prog 45 #[b32 x, .int .i64 8] w fun e w' => e = .returned (b32 (rol x 8)) ∧ w = w' := by
  go_enter Try.func45, Try.ntmps45
  go_wp2
  go_ret
  exact ⟨rfl, rfl⟩
theorem left7 (x : BitVec 32) (w : World) : Calls Try.prog 45 #[b32 x, .int .i64 7] w fun e w' => e = .returned (b32 (rol x 7)) ∧ w = w' := by
  go_enter Try.func45, Try.ntmps45
  go_wp2
  go_ret
  exact ⟨rfl, rfl⟩
/-- The word of four bytes. -/
def word4 (xs : List (BitVec 8)) : BitVec 32 := (ath xs 0).setWidth 32 ||| (ath xs 1).setWidth 32 <<< 8 ||| (ath xs 2).setWidth 32 <<< 16 ||| (ath xs 3).setWidth 32 <<< 24
theorem word_any (A : Option Addr) (n c : Nat) (xs : List (BitVec 8)) (w : World) (h : Rd b8 w A n c xs) (h4 : 4 ≤ n) :
    Calls Try.prog 48 #[.slice A n c] w fun e w' => e = .returned (b32 (word4 xs)) ∧ ∀ B, Below B w w' := by
  have hm1 := h.le
  have hm2 := h.most
  obtain ⟨ad, rfl, hc⟩ := h.addr (by omega)
  have c0 : w.cell? ad = some (b8 (ath xs 0)) := by have := hc 0 (by omega); rwa [add0] at this
  have c1 : w.cell? ⟨ad.block, ad.off + 1, none⟩ = some (b8 (ath xs 1)) := hc 1 (by omega)
  have c2 : w.cell? ⟨ad.block, ad.off + 2, none⟩ = some (b8 (ath xs 2)) := hc 2 (by omega)
  have c3 : w.cell? ⟨ad.block, ad.off + 3, none⟩ = some (b8 (ath xs 3)) := hc 3 (by omega)
  have e0 : 0 < n := by omega
  have e1 : (1 : Int) < (n : Int) := by omega
  have e2 : (2 : Int) < (n : Int) := by omega
  have e3 : (3 : Int) < (n : Int) := by omega
  clear hc h
  go_enter Try.func48, Try.ntmps48
  go_wp2
  go_quiet (fail)
  go_wp2
  go_ret
  exact ⟨rfl, fun B => below_drewN (Below.refl B w) _⟩
end
attribute [local go_sem] add32 sub32 xor32 or32 n32_beq
theorem rquarter_any (q : Four) (w : World) :
    Calls Try.prog 35 #[b32 q.a, b32 q.b, b32 q.c, b32 q.d] w fun e w' =>
      e = .returned (.tuple #[b32 (quarter q).a, b32 (quarter q).b, b32 (quarter q).c, b32 (quarter q).d]) ∧ w = w' := by
  have r16 := Lib.hid left16
  have r12 := Lib.hid left12
  have r8 := Lib.hid left8
  have r7 := Lib.hid left7
  go_enter Try.func35, Try.ntmps35
  go_wp2_with (first | ((with_reducible refine (r16.out _ _).mono ?_); rintro e w' ⟨rfl, rfl⟩) | ((with_reducible refine (r12.out _ _).mono ?_); rintro e w' ⟨rfl, rfl⟩) | ((with_reducible refine (r8.out _ _).mono ?_); rintro e w' ⟨rfl, rfl⟩) | ((with_reducible refine (r7.out _ _).mono ?_); rintro e w' ⟨rfl, rfl⟩))
  exact bodyPost_ret (v := .tuple #[b32 (quarter q).a, b32 (quarter q).b, b32 (quarter q).c, b32 (quarter q).d]) (by simp [results, Try.results35, go_sem]; exact ⟨rfl, rfl, rfl, rfl⟩) rfl ⟨rfl, rfl⟩

set_option maxHeartbeats 2000000 in
/-- A quarter round at four places of an array of sixteen. -/
theorem round_any (xs : List (BitVec 32)) (a b c d : Nat) (w : World) (hx : xs.length = 16) (ha : a < 4) (hb0 : 4 ≤ b) (hb : b < 8) (hc0 : 8 ≤ c) (hc : c < 12) (hd0 : 12 ≤ d) (hd : d < 16) :
    Calls Try.prog 49 #[.agg (xs.map b32).toArray, .int .i64 a, .int .i64 b, .int .i64 c, .int .i64 d] w (ArrE w (.agg ((qr4 xs a b c d).map b32).toArray)) := by
  have HX := Lib.hid hx
  clear hx
  go_enter Try.func49, Try.ntmps49
  go_upto_region 1 with (fail)
  refine name_world (fun W => Blk W w.heap.size 64 (xs.map b32) ∧ Blk W (w.heap.size + 1) 64 (zero16.map b32) ∧ Below w.heap.size w W)
    ⟨(blk_new w _ _ _ rfl).alloc _, blk_new (w.alloc _) _ _ _ (by simp), ((Below.refl _ _).alloc (Nat.le_refl _) _).alloc (by simp) _⟩ ?_
  rintro W0 ⟨h1, h2, hbw⟩
  have H1 := Lib.hid h1; have H2 := Lib.hid h2; have HB := Lib.hid hbw
  have c0 := blk_cell H1.out a (by rw [HX.out]; omega)
  have c1 := blk_cell H1.out b (by rw [HX.out]; omega)
  have c2 := blk_cell H1.out c (by rw [HX.out]; omega)
  have c3 := blk_cell H1.out d (by rw [HX.out]; omega)
  have f0 := H1.out.frozen a
  have f1 := H1.out.frozen b
  have f2 := H1.out.frozen c
  have f3 := H1.out.frozen d
  have e0 : (a : Int) < 16 := by omega
  have e1 : (b : Int) < 16 := by omega
  have e2 : (c : Int) < 16 := by omega
  have e3 : (d : Int) < 16 := by omega
  have hq := Lib.hid (fun w => rquarter_any ⟨ath xs a, ath xs b, ath xs c, ath xs d⟩ w)
  clear h1 h2 hbw
  go_quiet ((with_reducible refine quiet_eq (hq.out _)))
  go_upto_region 4 with (fail)
  refine name_world (fun W => Blk W w.heap.size 64 ((qr4 xs a b c d).map b32) ∧ Blk W (w.heap.size + 1) 64 (zero16.map b32) ∧ Below w.heap.size w W)
    ⟨(blk_set (enc := b32) (blk_set (enc := b32) (blk_set (enc := b32) (blk_set (enc := b32) H1.out a _) b _) c _) d _).drewN _, H2.out.only (((((Only.refl _ _).set _ _).set _ _).set _ _).set _ _ |>.drewN _) (by omega), ((((((Only.refl _ _).set _ _).set _ _).set _ _).set _ _).drewN _).below HB.out (Nat.le_refl _)⟩ ?_
  rintro W1 ⟨h1, h2, hbw⟩
  have hlen : Hid ((qr4 xs a b c d).length = 16) := Lib.hid (by rw [qr4_len]; exact HX.out)
  apply wp_region_lit
  refine wpList_load_blk rfl rfl rfl h1 Try.underlying64 (by rw [List.length_map, hlen.out]; kernel_rfl) ?_
  refine wpList_store_blk rfl rfl rfl rfl h2 (by rw [List.length_map, hlen.out]; kernel_rfl) (by rw [List.length_map, List.length_map, hlen.out]; rfl) (b32s_one _) ?_
  intro W2 h3 ho
  go_wp2
  exact bodyPost_end (results_blk rfl _ rfl h3 Try.underlying64 (by rw [List.length_map, hlen.out]; kernel_rfl)) rfl ⟨rfl, ho.below hbw (by omega)⟩
end Go.Proofs.Ytchfhndpbfohhaa
