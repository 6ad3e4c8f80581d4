/- What chacha's Block answers. No conditions. -/
import Derived.Test.YtchfhndpbfohhaaChPure
import Derived.Laws.Cover3
import Derived.Deep.QuietTactic
import Derived.BigQuiet
import Derived.Test.YtchfhndpbfohhaaReg
namespace Go.Proofs.Ytchfhndpbfohhaa
set_option linter.unusedVariables false
set_option linter.unusedSimpArgs false
open Go.RowKit Bv
attribute [local go_sem] add32 sub32 xor32 or32 n32_beq cv64_32 cv32_64

set_option maxRecDepth 100000 in
set_option maxHeartbeats 4000000 in
theorem block_any (key nonce : List (BitVec 8)) (ctr : BitVec 32) (w : World) (hk : key.length = 32) (hn : nonce.length = 12) :
    Calls Try.prog 36 #[.agg (key.map b8).toArray, b32 ctr, .agg (nonce.map b8).toArray] w (ArrE w (.agg ((cblock key ctr nonce).map b8).toArray)) := by
  have HK := Lib.hid hk
  have HN := Lib.hid hn
  obtain ⟨i0, hi, hz0, hz1, hz2⟩ := info_parts oinfo8
  clear hk hn
  go_enter Try.func36, Try.ntmps36
  go_upto_region 1 with (fail)
  refine name_world (fun W => Blk W w.heap.size 49 (key.map b8) ∧ Blk W (w.heap.size + 1) 50 (nonce.map b8) ∧ (∃ z : List (BitVec 8), z.length = 64 ∧ Blk W (w.heap.size + 2) 51 (z.map b8)) ∧ Below w.heap.size w W ∧ W.heap.size = w.heap.size + 3)
    ⟨((blk_new w _ _ _ rfl).alloc _).alloc _, (blk_new (w.alloc _) _ _ _ (by simp)).alloc _, ⟨List.replicate 64 0#8, by simp, blk_new ((w.alloc _).alloc _) _ _ _ (by simp)⟩, (((Below.refl _ _).alloc (Nat.le_refl _) _).alloc (by simp) _).alloc (by simp; omega) _, by simp⟩ ?_
  rintro W0 ⟨h1, h2, ⟨z, hz, h3⟩, hb, hs⟩
  have H1 := Lib.hid h1; have H2 := Lib.hid h2; have H3 := Lib.hid h3; have HB := Lib.hid hb; have HS := Lib.hid hs; have HZ := Lib.hid hz
  have hst := Lib.hid (state_any key nonce ctr W0 HK.out HN.out)
  clear h1 h2 h3 hb hs hz
  apply wp_region_lit
  refine wpList_load_blk rfl rfl rfl H1.out Try.underlying49 (by rw [List.length_map, HK.out]; kernel_rfl) ?_
  go_step
  go_step
  go_step
  refine wpList_load_blk rfl rfl rfl H2.out Try.underlying50 (by rw [List.length_map, HN.out]; kernel_rfl) ?_
  go_wp2_with fail
  refine hst.out.mono ?_
  rintro e W1 ⟨rfl, hb1⟩
  have hs1 := hb1.size
  have HB1 := Lib.hid hb1
  have HL := Lib.hid (stB_len key ctr nonce 3)
  clear hb1
  go_upto_region 2 with (refine wpList_store_blk rfl rfl rfl rfl (blk_new W1 _ _ _ rfl) (by rw [List.length_map, HL.out]; kernel_rfl) (by rw [List.length_map, HL.out]; rfl) (b32s_one _) ?_; intro W2 hk2 ho2)
  have hs2 : W2.heap.size = W1.heap.size + 1 := ho2.size.trans (by simp)
  have HK2 := Lib.hid hk2
  have HB2 := Lib.hid (ho2.below ((Below.refl W1.heap.size W1).alloc (Nat.le_refl _) _) (Nat.le_refl _))
  clear hk2 ho2
  apply wp_region_lit
  refine wpList_load_blk rfl rfl rfl HK2.out Try.underlying64 (by rw [List.length_map, HL.out]; kernel_rfl) ?_
  go_step
  go_step
  go_step
  refine wpList_store_blk rfl rfl rfl rfl (blk_new W2 _ _ _ hs2.symm) (by rw [List.length_map, HL.out]; kernel_rfl) (by rw [List.length_map, HL.out]; rfl) (b32s_one _) ?_
  intro W3 hk3 ho3
  have hs3 : W3.heap.size = W1.heap.size + 2 := ho3.size.trans (by simp [hs2])
  have HB3 := Lib.hid (ho3.below (HB2.out.alloc (by omega) _) (by omega))
  have HS3 := Lib.hid (HK2.out.alloc (.cells (List.replicate 16 (Value.int .u32 0)).toArray 64 (0, 0)))
  have H7 : Hid (Blk W3 W1.heap.size 64 ((stB key ctr nonce 3).map b32)) := Lib.hid ((HK2.out.alloc _).only ho3 (by omega))
  have H8 := Lib.hid hk3
  have BW : Hid (Below w.heap.size w W3) := Lib.hid ((HB.out.trans (HB1.out.mono (by have := HS.out; omega))).trans (HB3.out.mono (by have := HS.out; omega)))
  have hzw := HS.out
  have H3' : Hid (Blk W3 (w.heap.size + 2) 51 (z.map b8)) := Lib.hid ((H3.out.below HB1.out (by omega)).below HB3.out (by omega))
  clear hk3 ho3 HS3
  go_wp2
  go_loopw [9, 10, 11, 12, 13, 21, 23, 59] (fun _ _ _ _ _ i _ _ wr => ∃ k : Nat, k ≤ 10 ∧ i = .int .i64 k ∧ Blk wr (w.heap.size + 2) 51 (z.map b8) ∧ Blk wr W1.heap.size 64 ((stB key ctr nonce 3).map b32) ∧
    Blk wr (W1.heap.size + 1) 64 ((rounds (stB key ctr nonce 3) k).map b32) ∧ Below w.heap.size w wr ∧ wr.heap.size = W3.heap.size) (fun _ _ _ _ _ i _ _ _ => 10 - (intOf i).toNat)
  case atStart => exact ⟨0, by omega, rfl, H3'.out, H7.out, H8.out, BW.out, rfl⟩
  case round =>
    obtain ⟨k, hk10, rfl, h3, h7, h8, hb, hsz⟩ := hrel
    have L3 := Lib.hid h3; have L7 := Lib.hid h7; have L8 := Lib.hid h8; have LB := Lib.hid hb; have LS := Lib.hid hsz
    clear h3 h7 h8 hb hsz H3' H7 H8 BW HB3 HB2 HK2 HB1 H1 H2 H3 HB hst
    by_cases hk : k < 10
    · obtain ⟨wo, rfl⟩ : ∃ wo : World, wo = wr := ⟨_, rfl⟩
      go_wp2
      go_loopw [9, 23] (fun _ i wq => ∃ j : Nat, j ≤ 4 ∧ i = .int .i64 j ∧ Blk wq (W1.heap.size + 1) 64 ((colr (rounds (stB key ctr nonce 3) k) j).map b32) ∧ Only (W1.heap.size + 1) wo wq) (fun _ i _ => 4 - (intOf i).toNat)
      case atStart => exact ⟨0, by omega, rfl, L8.out, ⟨rfl, rfl, rfl, rfl, fun _ _ => rfl⟩⟩
      case round =>
        obtain ⟨j, hj4, rfl, h8, ho⟩ := hrel
        have M8 := Lib.hid h8; have MO := Lib.hid ho
        have hlen : Hid ((colr (rounds (stB key ctr nonce 3) k) j).length = 16) := Lib.hid (by rw [colr_len, rounds_len, stB_len])
        clear h8 ho
        by_cases hj : j < 4
        · have c0 := blk_cell M8.out j (by rw [hlen.out]; omega)
          have c1 := blk_cell M8.out (4 + j) (by rw [hlen.out]; omega)
          have c2 := blk_cell M8.out (8 + j) (by rw [hlen.out]; omega)
          have c3 := blk_cell M8.out (12 + j) (by rw [hlen.out]; omega)
          have f0 := M8.out.frozen j
          have f1 := M8.out.frozen (4 + j)
          have f2 := M8.out.frozen (8 + j)
          have f3 := M8.out.frozen (12 + j)
          have hq := Lib.hid (fun w => quarter_any ⟨ath (colr (rounds (stB key ctr nonce 3) k) j) j, ath (colr (rounds (stB key ctr nonce 3) k) j) (4 + j), ath (colr (rounds (stB key ctr nonce 3) k) j) (8 + j), ath (colr (rounds (stB key ctr nonce 3) k) j) (12 + j)⟩ w)
          have e0 : (0 : Int) ≤ (j : Int) := by omega
          have e1 : (j : Int) < 16 := by omega
          have e2 : (0 : Int) ≤ 4 + (j : Int) := by omega
          have e3 : 4 + (j : Int) < 16 := by omega
          have e4 : (0 : Int) ≤ 8 + (j : Int) := by omega
          have e5 : 8 + (j : Int) < 16 := by omega
          have e6 : (0 : Int) ≤ 12 + (j : Int) := by omega
          have e7 : 12 + (j : Int) < 16 := by omega
          have t0 : (j : Int).toNat = j := by omega
          have t4 : (4 + (j : Int)).toNat = 4 + j := by omega
          have t8 : (8 + (j : Int)).toNat = 8 + j := by omega
          have t12 : (12 + (j : Int)).toNat = 12 + j := by omega
          have w4 : IntKind.i64.wrap (4 + (j : Int)) = 4 + (j : Int) := IntWalk.i64_in _ (by omega)
          have w8 : IntKind.i64.wrap (8 + (j : Int)) = 8 + (j : Int) := IntWalk.i64_in _ (by omega)
          have w12 : IntKind.i64.wrap (12 + (j : Int)) = 12 + (j : Int) := IntWalk.i64_in _ (by omega)
          go_wp2
          refine wp_region_any (by kernel_rfl) ?_
          change wpAny _ _ _ _ _ _ _ (World.drew _)
          refine wpAny_take (i := 0) (v := ?_) rfl (by kernel_rfl) (by kernel_rfl) (by kernel_rfl) (fun _ _ _ h => h) (Or.inl ⟨by rfl, ?_⟩) ?_
          rotate_left
          · (intro w; go_simp; try with_reducible rfl)
          refine wpAny_take (i := 1) (v := ?_) rfl (by kernel_rfl) (by kernel_rfl) (by kernel_rfl) (fun _ _ _ h => h) (Or.inl ⟨by rfl, ?_⟩) ?_
          rotate_left
          · (intro w; go_simp; try with_reducible rfl)
          refine wpAny_take (i := 2) (v := ?_) rfl (by kernel_rfl) (by kernel_rfl) (by kernel_rfl) (fun _ _ _ h => h) (Or.inl ⟨by rfl, ?_⟩) ?_
          rotate_left
          · (intro w; go_simp; try with_reducible rfl)
          refine wpAny_take (i := 3) (v := ?_) rfl (by kernel_rfl) (by kernel_rfl) (by kernel_rfl) (fun _ _ _ h => h) (Or.inl ⟨by rfl, ?_⟩) ?_
          rotate_left
          · (intro w; go_simp; try with_reducible rfl)
          refine wpAny_take (i := 4) (v := ?_) rfl (by kernel_rfl) (by kernel_rfl) (by kernel_rfl) (fun _ _ _ h => h) (Or.inl ⟨by rfl, ?_⟩) ?_
          rotate_left
          · (intro w; go_simp; try with_reducible rfl)
          refine wpAny_take (i := 5) (v := ?_) rfl (by kernel_rfl) (by kernel_rfl) (by kernel_rfl) (fun _ _ _ h => h) (Or.inl ⟨by rfl, ?_⟩) ?_
          rotate_left
          · (intro w; go_simp; try with_reducible rfl)
          refine wpAny_take (i := 6) (v := ?_) rfl (by kernel_rfl) (by kernel_rfl) (by kernel_rfl) (fun _ _ _ h => h) (Or.inl ⟨by rfl, ?_⟩) ?_
          rotate_left
          · (intro w; go_simp; try with_reducible rfl)
          refine wpAny_take (i := 7) (v := ?_) rfl (by kernel_rfl) (by kernel_rfl) (by kernel_rfl) (fun _ _ _ h => h) (Or.inl ⟨by rfl, ?_⟩) ?_
          rotate_left
          · (intro w; go_simp; try with_reducible rfl)
          refine wpAny_take (i := 8) (v := ?_) rfl (by kernel_rfl) (by kernel_rfl) (by kernel_rfl) (fun _ _ _ h => h) (Or.inl ⟨by rfl, ?_⟩) ?_
          rotate_left
          · (intro w; go_simp; try with_reducible rfl)
          refine wpAny_take (i := 10) (v := ?_) rfl (by kernel_rfl) (by kernel_rfl) (by kernel_rfl) (fun _ _ _ h => h) (Or.inl ⟨by rfl, ?_⟩) ?_
          rotate_left
          · (intro w; go_simp; try with_reducible rfl)
          refine wpAny_take (i := 11) (v := ?_) rfl (by kernel_rfl) (by kernel_rfl) (by kernel_rfl) (fun _ _ _ h => h) (Or.inl ⟨by rfl, ?_⟩) ?_
          rotate_left
          · (intro w; go_simp; try with_reducible rfl)
          refine wpAny_take (i := 12) (v := ?_) rfl (by kernel_rfl) (by kernel_rfl) (by kernel_rfl) (fun _ _ _ h => h) (Or.inl ⟨by rfl, ?_⟩) ?_
          rotate_left
          · (intro w; go_simp; try with_reducible rfl)
          refine wpAny_take (i := 14) (v := ?_) rfl (by kernel_rfl) (by kernel_rfl) (by kernel_rfl) (fun _ _ _ h => h) (Or.inl ⟨by rfl, ?_⟩) ?_
          rotate_left
          · (intro w; go_simp; try with_reducible rfl)
          refine wpAny_take (i := 15) (v := ?_) rfl (by kernel_rfl) (by kernel_rfl) (by kernel_rfl) (fun _ _ _ h => h) (Or.inl ⟨by rfl, ?_⟩) ?_
          rotate_left
          · (intro w; go_simp; try with_reducible rfl)
          refine wpAny_take (i := 16) (v := ?_) rfl (by kernel_rfl) (by kernel_rfl) (by kernel_rfl) (fun _ _ _ h => h) (Or.inl ⟨by rfl, ?_⟩) ?_
          rotate_left
          · (intro w; go_simp; try with_reducible rfl)
          refine wpAny_take (i := 18) (v := ?_) rfl (by kernel_rfl) (by kernel_rfl) (by kernel_rfl) (fun _ _ _ h => h) (Or.inl ⟨by rfl, ?_⟩) ?_
          rotate_left
          · (intro w; go_simp; try with_reducible rfl)
          refine wpAny_take (i := 19) (v := ?_) rfl (by kernel_rfl) (by kernel_rfl) (by kernel_rfl) (fun _ _ _ h => h) (Or.inl ⟨by rfl, ?_⟩) ?_
          rotate_left
          · (intro w; go_simp; try with_reducible rfl)
          refine wpAny_take (i := 20) (v := ?_) rfl (by kernel_rfl) (by kernel_rfl) (by kernel_rfl) (fun _ _ _ h => h) (Or.inl ⟨by rfl, ?_⟩) ?_
          rotate_left
          · (intro w; go_simp; try with_reducible rfl)
          refine wpM_phase (head := fun j => [9, 13, 17, 21].contains j) (l₀ := #[true, true, true, true, true, true, true, true, true, true, true, true, true, true, true, true, true, true, true, true, true, true, false, false, false, false, false, false, false, false, false, false, false, false, false, false]) (f := 4) (g := 14) (by kernel_rfl) ?_
          refine wpM_load (i := 9) (v := ?_) rfl (by kernel_rfl) (by kernel_rfl) (by kernel_rfl) (by kernel_rfl) (by kernel_rfl) (Or.inl ⟨by rfl, Or.inl ?_⟩) ?_
          rotate_left
          · (go_simp; try with_reducible rfl)
          refine wpM_load (i := 13) (v := ?_) rfl (by kernel_rfl) (by kernel_rfl) (by kernel_rfl) (by kernel_rfl) (by kernel_rfl) (Or.inl ⟨by rfl, Or.inl ?_⟩) ?_
          rotate_left
          · (go_simp; try with_reducible rfl)
          refine wpM_load (i := 17) (v := ?_) rfl (by kernel_rfl) (by kernel_rfl) (by kernel_rfl) (by kernel_rfl) (by kernel_rfl) (Or.inl ⟨by rfl, Or.inl ?_⟩) ?_
          rotate_left
          · (go_simp; try with_reducible rfl)
          refine wpM_load (i := 21) (v := ?_) rfl (by kernel_rfl) (by kernel_rfl) (by kernel_rfl) (by kernel_rfl) (by kernel_rfl) (Or.inl ⟨by rfl, Or.inl ?_⟩) ?_
          rotate_left
          · (go_simp; try with_reducible rfl)
          refine ⟨by kernel_rfl, ?_⟩
          refine wpAny_only (i := 22) rfl (by kernel_rfl) rfl (fun K hK => ?_)
          go_simp
          refine (hq.out _).mono ?_
          rintro e w' ⟨rfl, rfl⟩
          refine hK _ _ ?_
          clear hK K
          refine wpAny_take (i := 23) (v := ?_) rfl (by kernel_rfl) (by kernel_rfl) (by kernel_rfl) (fun _ _ _ h => h) (Or.inl ⟨by rfl, ?_⟩) ?_
          rotate_left
          · (intro w; go_simp; try with_reducible rfl)
          refine wpAny_take (i := 24) (v := ?_) rfl (by kernel_rfl) (by kernel_rfl) (by kernel_rfl) (fun _ _ _ h => h) (Or.inl ⟨by rfl, ?_⟩) ?_
          rotate_left
          · (intro w; go_simp; try with_reducible rfl)
          refine wpAny_take (i := 25) (v := ?_) rfl (by kernel_rfl) (by kernel_rfl) (by kernel_rfl) (fun _ _ _ h => h) (Or.inl ⟨by rfl, ?_⟩) ?_
          rotate_left
          · (intro w; go_simp; try with_reducible rfl)
          refine wpAny_take (i := 26) (v := ?_) rfl (by kernel_rfl) (by kernel_rfl) (by kernel_rfl) (fun _ _ _ h => h) (Or.inl ⟨by rfl, ?_⟩) ?_
          rotate_left
          · (intro w; go_simp; try with_reducible rfl)
          refine wpAny_take (i := 27) (v := ?_) rfl (by kernel_rfl) (by kernel_rfl) (by kernel_rfl) (fun _ _ _ h => h) (Or.inl ⟨by rfl, ?_⟩) ?_
          rotate_left
          · (intro w; go_simp; try with_reducible rfl)
          refine wpAny_take (i := 28) (v := ?_) rfl (by kernel_rfl) (by kernel_rfl) (by kernel_rfl) (fun _ _ _ h => h) (Or.inl ⟨by rfl, ?_⟩) ?_
          rotate_left
          · (intro w; go_simp; try with_reducible rfl)
          refine wpAny_only (i := 29) rfl (by kernel_rfl) rfl (fun K hK => ?_)
          go_simp
          refine hK _ _ ?_
          clear hK K
          refine wpAny_take (i := 30) (v := ?_) rfl (by kernel_rfl) (by kernel_rfl) (by kernel_rfl) (fun _ _ _ h => h) (Or.inl ⟨by rfl, ?_⟩) ?_
          rotate_left
          · (intro w; go_simp; try with_reducible rfl)
          refine wpAny_only (i := 31) rfl (by kernel_rfl) rfl (fun K hK => ?_)
          go_simp
          refine hK _ _ ?_
          clear hK K
          refine wpAny_take (i := 32) (v := ?_) rfl (by kernel_rfl) (by kernel_rfl) (by kernel_rfl) (fun _ _ _ h => h) (Or.inl ⟨by rfl, ?_⟩) ?_
          rotate_left
          · (intro w; go_simp; try with_reducible rfl)
          refine wpAny_only (i := 33) rfl (by kernel_rfl) rfl (fun K hK => ?_)
          go_simp
          refine hK _ _ ?_
          clear hK K
          refine wpAny_take (i := 34) (v := ?_) rfl (by kernel_rfl) (by kernel_rfl) (by kernel_rfl) (fun _ _ _ h => h) (Or.inl ⟨by rfl, ?_⟩) ?_
          rotate_left
          · (intro w; go_simp; try with_reducible rfl)
          refine wpAny_only (i := 35) rfl (by kernel_rfl) rfl (fun K hK => ?_)
          go_simp
          refine hK _ _ ?_
          clear hK K
          refine wpAny_done (by kernel_rfl) ?_ _
          go_wp2
          go_roundw
          case rel =>
            have hkd : decide ((k : Int) < 10) = true := decide_eq_true (by omega)
            rw [hkd]
            clear hkd
            repeat apply Exists.intro
            refine ⟨⟨j + 1, by omega, ?g, ?b, ?o⟩, ?f⟩
            case f => rfl
            case b => exact (blk_set (enc := b32) (blk_set (enc := b32) (blk_set (enc := b32) (blk_set (enc := b32) M8.out j _) (4 + j) _) (8 + j) _) (12 + j) _).drew
            case o => exact ((((MO.out.set _ _).set _ _).set _ _).set _ _).drew
            case g => go_num
          case measure => simp [intOf]; omega
        · obtain rfl : j = 4 := by omega
          clear hj
          go_wp2
          obtain ⟨wp, rfl⟩ : ∃ wp : World, wp = wr := ⟨_, rfl⟩
          go_loopw [10, 11, 12, 13, 59] (fun _ _ _ _ i wq => ∃ j : Nat, j ≤ 4 ∧ i = .int .i64 j ∧ Blk wq (W1.heap.size + 1) 64 ((diar (colr (rounds (stB key ctr nonce 3) k) 4) j).map b32) ∧ Only (W1.heap.size + 1) wo wq) (fun _ _ _ _ i _ => 4 - (intOf i).toNat)
          case atStart => exact ⟨0, by omega, rfl, M8.out, MO.out⟩
          case round =>
            obtain ⟨j, hj4, rfl, h8, ho⟩ := hrel
            clear M8 MO
            have M8 := Lib.hid h8; have MO := Lib.hid ho
            have hlen : Hid ((diar (colr (rounds (stB key ctr nonce 3) k) 4) j).length = 16) := Lib.hid (by rw [diar_len, colr_len, rounds_len, stB_len])
            clear h8 ho
            by_cases hj : j < 4
            · generalize hD : diar (colr (rounds (stB key ctr nonce 3) k) 4) j = D at M8 hlen
              have HD := Lib.hid hD
              clear hD
              obtain ⟨p, hp, hp'⟩ : ∃ p : Nat, 4 + ((j : Int) + 1) % 4 = (p : Int) ∧ p = 4 + (j + 1) % 4 := ⟨4 + (j + 1) % 4, by omega, rfl⟩
              obtain ⟨q, hq', hq''⟩ : ∃ q : Nat, 8 + ((j : Int) + 2) % 4 = (q : Int) ∧ q = 8 + (j + 2) % 4 := ⟨8 + (j + 2) % 4, by omega, rfl⟩
              obtain ⟨r, hr, hr'⟩ : ∃ r : Nat, 12 + ((j : Int) + 3) % 4 = (r : Int) ∧ r = 12 + (j + 3) % 4 := ⟨12 + (j + 3) % 4, by omega, rfl⟩
              have p1 : 4 ≤ p := by omega
              have p2 : p < 8 := by omega
              have q1 : 8 ≤ q := by omega
              have q2 : q < 12 := by omega
              have r1 : 12 ≤ r := by omega
              have r2 : r < 16 := by omega
              have HP := Lib.hid hp'; have HQ := Lib.hid hq''; have HR := Lib.hid hr'
              clear hp' hq'' hr'
              have c0 := blk_cell M8.out j (by rw [hlen.out]; omega)
              have c1 := blk_cell M8.out p (by rw [hlen.out]; omega)
              have c2 := blk_cell M8.out q (by rw [hlen.out]; omega)
              have c3 := blk_cell M8.out r (by rw [hlen.out]; omega)
              have f0 := M8.out.frozen j
              have f1 := M8.out.frozen p
              have f2 := M8.out.frozen q
              have f3 := M8.out.frozen r
              have hq := Lib.hid (fun w => quarter_any ⟨ath D j, ath D p, ath D q, ath D r⟩ w)
              have e1 : (j : Int) < 16 := by omega
              have e3 : (p : Int) < 16 := by omega
              have e5 : (q : Int) < 16 := by omega
              have e7 : (r : Int) < 16 := by omega
              go_upto_region 14 with (fail)
              refine wp_region_any (by kernel_rfl) ?_
              change wpAny _ _ _ _ _ _ _ (World.drew _)
              refine wpAny_take (i := 0) (v := ?_) rfl (by kernel_rfl) (by kernel_rfl) (by kernel_rfl) (fun _ _ _ h => h) (Or.inl ⟨by rfl, ?_⟩) ?_
              rotate_left
              · (intro w; go_simp; try with_reducible rfl)
              refine wpAny_take (i := 1) (v := ?_) rfl (by kernel_rfl) (by kernel_rfl) (by kernel_rfl) (fun _ _ _ h => h) (Or.inl ⟨by rfl, ?_⟩) ?_
              rotate_left
              · (intro w; go_simp; try with_reducible rfl)
              refine wpAny_take (i := 2) (v := ?_) rfl (by kernel_rfl) (by kernel_rfl) (by kernel_rfl) (fun _ _ _ h => h) (Or.inl ⟨by rfl, ?_⟩) ?_
              rotate_left
              · (intro w; go_simp; try with_reducible rfl)
              refine wpAny_take (i := 3) (v := ?_) rfl (by kernel_rfl) (by kernel_rfl) (by kernel_rfl) (fun _ _ _ h => h) (Or.inl ⟨by rfl, ?_⟩) ?_
              rotate_left
              · (intro w; go_simp; try with_reducible rfl)
              refine wpAny_take (i := 4) (v := ?_) rfl (by kernel_rfl) (by kernel_rfl) (by kernel_rfl) (fun _ _ _ h => h) (Or.inl ⟨by rfl, ?_⟩) ?_
              rotate_left
              · (intro w; go_simp; try with_reducible rfl)
              refine wpAny_take (i := 5) (v := ?_) rfl (by kernel_rfl) (by kernel_rfl) (by kernel_rfl) (fun _ _ _ h => h) (Or.inl ⟨by rfl, ?_⟩) ?_
              rotate_left
              · (intro w; go_simp; try with_reducible rfl)
              refine wpAny_take (i := 7) (v := ?_) rfl (by kernel_rfl) (by kernel_rfl) (by kernel_rfl) (fun _ _ _ h => h) (Or.inl ⟨by rfl, ?_⟩) ?_
              rotate_left
              · (intro w; go_simp; try with_reducible rfl)
              refine wpAny_take (i := 8) (v := ?_) rfl (by kernel_rfl) (by kernel_rfl) (by kernel_rfl) (fun _ _ _ h => h) (Or.inl ⟨by rfl, ?_⟩) ?_
              rotate_left
              · (intro w; go_simp; try with_reducible rfl)
              refine wpAny_take (i := 10) (v := ?_) rfl (by kernel_rfl) (by kernel_rfl) (by kernel_rfl) (fun _ _ _ h => h) (Or.inl ⟨by rfl, ?_⟩) ?_
              rotate_left
              · (intro w; go_simp; try with_reducible rfl)
              refine wpAny_take (i := 11) (v := ?_) rfl (by kernel_rfl) (by kernel_rfl) (by kernel_rfl) (fun _ _ _ h => h) (Or.inl ⟨by rfl, ?_⟩) ?_
              rotate_left
              · (intro w; go_simp; try with_reducible rfl)
              refine wpAny_take (i := 13) (v := ?_) rfl (by kernel_rfl) (by kernel_rfl) (by kernel_rfl) (fun _ _ _ h => h) (Or.inl ⟨by rfl, ?_⟩) ?_
              rotate_left
              · (intro w; go_simp; try with_reducible rfl)
              refine wpAny_take (i := 14) (v := ?_) rfl (by kernel_rfl) (by kernel_rfl) (by kernel_rfl) (fun _ _ _ h => h) (Or.inl ⟨by rfl, ?_⟩) ?_
              rotate_left
              · (intro w; go_simp; try with_reducible rfl)
              refine wpM_phase (head := fun j => [6, 9, 12, 15].contains j) (l₀ := #[true, true, true, true, true, true, true, true, true, true, true, true, true, true, true, true, false, false, false, false, false, false, false, false, false, false, false, false, false, false]) (f := 4) (g := 14) (by kernel_rfl) ?_
              refine wpM_load (i := 6) (v := ?_) rfl (by kernel_rfl) (by kernel_rfl) (by kernel_rfl) (by kernel_rfl) (by kernel_rfl) (Or.inl ⟨by rfl, Or.inl ?_⟩) ?_
              rotate_left
              · (go_simp; try with_reducible rfl)
              refine wpM_load (i := 9) (v := ?_) rfl (by kernel_rfl) (by kernel_rfl) (by kernel_rfl) (by kernel_rfl) (by kernel_rfl) (Or.inl ⟨by rfl, Or.inl ?_⟩) ?_
              rotate_left
              · (go_simp; try with_reducible rfl)
              refine wpM_load (i := 12) (v := ?_) rfl (by kernel_rfl) (by kernel_rfl) (by kernel_rfl) (by kernel_rfl) (by kernel_rfl) (Or.inl ⟨by rfl, Or.inl ?_⟩) ?_
              rotate_left
              · (go_simp; try with_reducible rfl)
              refine wpM_load (i := 15) (v := ?_) rfl (by kernel_rfl) (by kernel_rfl) (by kernel_rfl) (by kernel_rfl) (by kernel_rfl) (Or.inl ⟨by rfl, Or.inl ?_⟩) ?_
              rotate_left
              · (go_simp; try with_reducible rfl)
              refine ⟨by kernel_rfl, ?_⟩
              refine wpAny_only (i := 16) rfl (by kernel_rfl) rfl (fun K hK => ?_)
              go_simp
              refine (hq.out _).mono ?_
              rintro e w' ⟨rfl, rfl⟩
              refine hK _ _ ?_
              clear hK K
              refine wpAny_take (i := 17) (v := ?_) rfl (by kernel_rfl) (by kernel_rfl) (by kernel_rfl) (fun _ _ _ h => h) (Or.inl ⟨by rfl, ?_⟩) ?_
              rotate_left
              · (intro w; go_simp; try with_reducible rfl)
              refine wpAny_take (i := 18) (v := ?_) rfl (by kernel_rfl) (by kernel_rfl) (by kernel_rfl) (fun _ _ _ h => h) (Or.inl ⟨by rfl, ?_⟩) ?_
              rotate_left
              · (intro w; go_simp; try with_reducible rfl)
              refine wpAny_take (i := 19) (v := ?_) rfl (by kernel_rfl) (by kernel_rfl) (by kernel_rfl) (fun _ _ _ h => h) (Or.inl ⟨by rfl, ?_⟩) ?_
              rotate_left
              · (intro w; go_simp; try with_reducible rfl)
              refine wpAny_take (i := 20) (v := ?_) rfl (by kernel_rfl) (by kernel_rfl) (by kernel_rfl) (fun _ _ _ h => h) (Or.inl ⟨by rfl, ?_⟩) ?_
              rotate_left
              · (intro w; go_simp; try with_reducible rfl)
              refine wpAny_take (i := 21) (v := ?_) rfl (by kernel_rfl) (by kernel_rfl) (by kernel_rfl) (fun _ _ _ h => h) (Or.inl ⟨by rfl, ?_⟩) ?_
              rotate_left
              · (intro w; go_simp; try with_reducible rfl)
              refine wpAny_take (i := 22) (v := ?_) rfl (by kernel_rfl) (by kernel_rfl) (by kernel_rfl) (fun _ _ _ h => h) (Or.inl ⟨by rfl, ?_⟩) ?_
              rotate_left
              · (intro w; go_simp; try with_reducible rfl)
              refine wpAny_only (i := 23) rfl (by kernel_rfl) rfl (fun K hK => ?_)
              go_simp
              refine hK _ _ ?_
              clear hK K
              refine wpAny_take (i := 24) (v := ?_) rfl (by kernel_rfl) (by kernel_rfl) (by kernel_rfl) (fun _ _ _ h => h) (Or.inl ⟨by rfl, ?_⟩) ?_
              rotate_left
              · (intro w; go_simp; try with_reducible rfl)
              refine wpAny_only (i := 25) rfl (by kernel_rfl) rfl (fun K hK => ?_)
              go_simp
              refine hK _ _ ?_
              clear hK K
              refine wpAny_take (i := 26) (v := ?_) rfl (by kernel_rfl) (by kernel_rfl) (by kernel_rfl) (fun _ _ _ h => h) (Or.inl ⟨by rfl, ?_⟩) ?_
              rotate_left
              · (intro w; go_simp; try with_reducible rfl)
              refine wpAny_only (i := 27) rfl (by kernel_rfl) rfl (fun K hK => ?_)
              go_simp
              refine hK _ _ ?_
              clear hK K
              refine wpAny_take (i := 28) (v := ?_) rfl (by kernel_rfl) (by kernel_rfl) (by kernel_rfl) (fun _ _ _ h => h) (Or.inl ⟨by rfl, ?_⟩) ?_
              rotate_left
              · (intro w; go_simp; try with_reducible rfl)
              refine wpAny_only (i := 29) rfl (by kernel_rfl) rfl (fun K hK => ?_)
              go_simp
              refine hK _ _ ?_
              clear hK K
              refine wpAny_done (by kernel_rfl) ?_ _
              go_wp2
              go_roundw
              case rel =>
                refine ⟨_, _, _, _, _, ⟨j + 1, by omega, by go_num, ?_, ((((MO.out.set _ _).set _ _).set _ _).set _ _).drew⟩, rfl, rfl, rfl, rfl, rfl⟩
                have hs : diar (colr (rounds (stB key ctr nonce 3) k) 4) (j + 1) = qr4 D j p q r := by rw [diar, HD.out, HP.out, HQ.out, HR.out]
                rw [hs]
                exact (blk_set (enc := b32) (blk_set (enc := b32) (blk_set (enc := b32) (blk_set (enc := b32) M8.out j _) p _) q _) r _).drew
              case measure => simp [intOf]; omega
            · obtain rfl : j = 4 := by omega
              clear hj
              go_wp2
              go_roundw
              case rel => exact ⟨k + 1, by omega, by go_num, L3.out.only MO.out (by omega), L7.out.only MO.out (by omega), M8.out, MO.out.below LB.out (by omega), MO.out.size.trans LS.out⟩
              case measure => simp [intOf]; omega
    · obtain rfl : k = 10 := by omega
      clear hk
      have hlt : W1.heap.size + 1 < wr.heap.size := by have := LS.out; omega
      have hlt2 : w.heap.size + 2 < wr.heap.size := by have := LS.out; omega
      clear hs3
      go_wp2_with (at_make; refine wpList_make_own _ rfl _ _ 32 rfl wr.heap.size 5 i0 (.int .u8 0) 1 Try.underlying32 hi hz0 hz1 .i64 .i64 _ 64 rfl rfl rfl (by rw [hz2]; omega) (by unfold maxLen; omega) (Nat.le_refl _) ?_; intro w5 hown5 hg5)
      have HO5 := Lib.hid hown5
      have HB5 : Hid (Below wr.heap.size wr w5) := Lib.hid (grown_below hg5 (by intro k hk; cases hk) (Nat.le_refl _))
      clear hown5 hg5
      obtain ⟨wf, rfl⟩ : ∃ wf : World, wf = wr := ⟨_, rfl⟩
      go_loopw [14, 15, 103] (fun s _ i wq => ∃ (k : Nat) (A : Option Addr) (c : Nat), k ≤ 16 ∧ i = .int .i64 k ∧ s = .slice A (4 * k) c ∧ wq.ownsRow wf.heap.size 5 1 (.slice A (4 * k) c) (4 * k) ((outb (rounds (stB key ctr nonce 3) 10) (stB key ctr nonce 3) k).map b8) ∧ Below wf.heap.size wf wq) (fun _ _ i _ => 16 - (intOf i).toNat)
      case atStart => exact ⟨0, _, _, by omega, rfl, rfl, HO5.out, HB5.out⟩
      case round =>
        obtain ⟨k, A, c, hk16, rfl, rfl, hown, hb⟩ := hrel
        have hsz := hb.size
        have MO := Lib.hid hown; have MB := Lib.hid hb
        clear hown hb
        by_cases hk : k < 16
        · have c7 := blk_cell (L7.out.below MB.out (by omega)) k (by rw [HL.out]; omega)
          have c8 := blk_cell (L8.out.below MB.out (by omega)) k (by rw [rounds_len, HL.out]; omega)
          have e1 : (k : Int) < 16 := by omega
          have hput : Hid (Calls Try.prog 47 #[.slice A (4 * k) c, b64 ((ath (rounds (stB key ctr nonce 3) 10) k + ath (stB key ctr nonce 3) k).setWidth 64), .int .i64 4] wr.drew (More wf.heap.size wr.drew (4 * k + 4) _)) :=
            Lib.hid (putlow_any A (4 * k) c 4 wf.heap.size _ _ wr.drew (World.ownsRow.drew MO.out) hsz (by omega) (by omega))
          go_upto_region 21 with (fail)
          refine wp_region_any (by kernel_rfl) ?_
          change wpAny _ _ _ _ _ _ _ (World.drew _)
          refine wpAny_take (i := 0) (v := ?_) rfl (by kernel_rfl) (by kernel_rfl) (by kernel_rfl) (fun _ _ _ h => h) (Or.inl ⟨by rfl, ?_⟩) ?_
          rotate_left
          · (intro w; go_simp; try with_reducible rfl)
          refine wpAny_take (i := 1) (v := ?_) rfl (by kernel_rfl) (by kernel_rfl) (by kernel_rfl) (fun _ _ _ h => h) (Or.inl ⟨by rfl, ?_⟩) ?_
          rotate_left
          · (intro w; go_simp; try with_reducible rfl)
          refine wpAny_take (i := 2) (v := ?_) rfl (by kernel_rfl) (by kernel_rfl) (by kernel_rfl) (fun _ _ _ h => h) (Or.inl ⟨by rfl, ?_⟩) ?_
          rotate_left
          · (intro w; go_simp; try with_reducible rfl)
          refine wpAny_take (i := 4) (v := ?_) rfl (by kernel_rfl) (by kernel_rfl) (by kernel_rfl) (fun _ _ _ h => h) (Or.inl ⟨by rfl, ?_⟩) ?_
          rotate_left
          · (intro w; go_simp; try with_reducible rfl)
          refine wpAny_take (i := 5) (v := ?_) rfl (by kernel_rfl) (by kernel_rfl) (by kernel_rfl) (fun _ _ _ h => h) (Or.inl ⟨by rfl, ?_⟩) ?_
          rotate_left
          · (intro w; go_simp; try with_reducible rfl)
          refine wpM_phase (head := fun j => [3, 6].contains j) (l₀ := #[true, true, true, true, true, true, true, false, false, false, false]) (f := 2) (g := 4) (by kernel_rfl) ?_
          refine wpM_load (i := 3) (v := ?_) rfl (by kernel_rfl) (by kernel_rfl) (by kernel_rfl) (by kernel_rfl) (by kernel_rfl) (Or.inl ⟨by rfl, Or.inl ?_⟩) ?_
          rotate_left
          · (go_simp; try with_reducible rfl)
          refine wpM_load (i := 6) (v := ?_) rfl (by kernel_rfl) (by kernel_rfl) (by kernel_rfl) (by kernel_rfl) (by kernel_rfl) (Or.inl ⟨by rfl, Or.inl ?_⟩) ?_
          rotate_left
          · (go_simp; try with_reducible rfl)
          refine ⟨by kernel_rfl, ?_⟩
          refine wpAny_take (i := 7) (v := ?_) rfl (by kernel_rfl) (by kernel_rfl) (by kernel_rfl) (fun _ _ _ h => h) (Or.inl ⟨by rfl, ?_⟩) ?_
          rotate_left
          · (intro w; go_simp; try with_reducible rfl)
          refine wpAny_take (i := 8) (v := ?_) rfl (by kernel_rfl) (by kernel_rfl) (by kernel_rfl) (fun _ _ _ h => h) (Or.inl ⟨by rfl, ?_⟩) ?_
          rotate_left
          · (intro w; go_simp; try with_reducible rfl)
          refine wpAny_only (i := 9) rfl (by kernel_rfl) rfl (fun K hK => ?_)
          go_simp
          refine hput.out.mono ?_
          rintro e w' ⟨A', c', rfl, hown', hb'⟩
          refine hK _ _ ?_
          clear hK K
          refine wpAny_take (i := 10) (v := ?_) rfl (by kernel_rfl) (by kernel_rfl) (by kernel_rfl) (fun _ _ _ h => h) (Or.inl ⟨by rfl, ?_⟩) ?_
          rotate_left
          · (intro w; go_simp; try with_reducible rfl)
          refine wpAny_done (by kernel_rfl) ?_ _
          go_wp2
          go_roundw
          case rel => exact ⟨k + 1, A', c', by omega, by go_num, rfl, hown', MB.out.drew.trans hb'⟩
          case measure => simp [intOf]; omega
        · obtain rfl : k = 16 := by omega
          clear hk
          have hrd := own_rd MO.out
          obtain ⟨g, rfl, hg1, hg2, _⟩ := own_some MO.out (by omega)
          have harr := fun w => run_arrayAt (P := Try.prog) (w := w) 51 5 64 (some ⟨g, 0, none⟩) (4 * 16) c Try.underlying51 (by omega)
          have L3' := Lib.hid (L3.out.below MB.out (by omega))
          have hlen : Hid ((outb (rounds (stB key ctr nonce 3) 10) (stB key ctr nonce 3) 16).length = 64) := Lib.hid (outb_len _ _ 16)
          have HRD := Lib.hid hrd
          clear hrd
          go_upto_region 23 with (fail)
          apply wp_region_lit
          go_step
          go_step
          go_step
          go_step
          go_step
          go_step
          refine wpList_load_rd rfl rfl rfl HRD.out Try.underlying51 (by kernel_rfl) ?_
          refine wpList_store_blk rfl rfl rfl rfl L3'.out (by rw [List.length_map, hlen.out]; kernel_rfl) (by rw [List.length_map, List.length_map, hlen.out, HZ.out]) (b8s_one _) ?_
          intro w6 h6 ho6
          go_wp2
          refine bodyPost_end (results_blk rfl _ rfl h6 Try.underlying51 (by rw [List.length_map, hlen.out]; kernel_rfl)) rfl ⟨rfl, ho6.below (LB.out.trans (MB.out.mono (by omega))) (by omega)⟩
end Go.Proofs.Ytchfhndpbfohhaa
