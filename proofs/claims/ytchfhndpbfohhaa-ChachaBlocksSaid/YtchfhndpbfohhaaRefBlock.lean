/- What the reference's block of chapter 05 answers. No conditions. -/
import Derived.Test.YtchfhndpbfohhaaChRefPure
import Derived.Laws.Cover3
namespace Go.Proofs.Ytchfhndpbfohhaa
set_option linter.unusedVariables false
set_option linter.unusedSimpArgs false
open Go.RowKit Bv
attribute [local go_sem] add32 sub32 xor32 or32 n32_beq cv32_8 shrv32
/-- What holds through the rounds. -/
structure RI (w0 : World) (g : Nat) (z : List (BitVec 8)) (s v : List (BitVec 32)) (w : World) : Prop where
  o : Blk w (w0.heap.size + 2) 51 (z.map b8)
  s : Blk w (w0.heap.size + 3) 64 (s.map b32)
  v : Blk w g 64 (v.map b32)
  b : Below w0.heap.size w0 w
  gl : w0.heap.size + 4 ≤ g
  n : g < w.heap.size
section
variable {w0 w w' : World} {g : Nat} {z : List (BitVec 8)} {s v : List (BitVec 32)}
theorem RI.call (h : RI w0 g z s v w) (hb : Below w.heap.size w w') : RI w0 g z s v w' :=
  have := h.n
  have := h.gl
  ⟨h.o.below hb (by omega), h.s.below hb (by omega), h.v.below hb (by omega), h.b.trans (hb.mono (by omega)), h.gl, by have := hb.size; omega⟩
theorem RI.put {v' : List (BitVec 32)} (h : RI w0 g z s v w) (hb : Blk w' g 64 (v'.map b32)) (ho : Only g w w') : RI w0 g z s v' w' :=
  have := h.gl
  ⟨h.o.only ho (by omega), h.s.only ho (by omega), hb, ho.below h.b (by omega), h.gl, by have := h.n; rw [ho.size]; omega⟩
end

set_option maxRecDepth 100000 in
set_option maxHeartbeats 4000000 in
theorem rblock_any (key nonce : List (BitVec 8)) (ctr : BitVec 32) (w : World) (hk : key.length = 32) (hn : nonce.length = 12) :
    Calls Try.prog 37 #[.agg (key.map b8).toArray, b32 ctr, .agg (nonce.map b8).toArray] w (ArrE w (.agg ((cblock key ctr nonce).map b8).toArray)) := by
  have HK := Lib.hid hk
  have HN := Lib.hid hn
  have lA := Lib.hid (stA_len key)
  have lB := Lib.hid (stB_len key ctr nonce)
  clear hk hn
  go_enter Try.func37, Try.ntmps37
  go_wp2
  go_loopw [8, 26, 27] (fun i _ _ wr => ∃ k : Nat, k ≤ 8 ∧ i = .int .i64 k ∧ Blk wr w.heap.size 49 (key.map b8) ∧ Blk wr (w.heap.size + 1) 50 (nonce.map b8) ∧ Blk wr (w.heap.size + 2) 51 ((List.replicate 64 0#8).map b8) ∧
    Blk wr (w.heap.size + 3) 64 ((stA key k).map b32) ∧ Below w.heap.size w wr ∧ w.heap.size + 4 ≤ wr.heap.size) (fun i _ _ _ => 8 - (intOf i).toNat)
  case atStart =>
    refine ⟨0, by omega, rfl, ?_, ?_, ?_, ?_, ?_, ?_⟩
    · exact (((blk_new w _ _ _ rfl).alloc _).alloc _).alloc _
    · exact ((blk_new (w.alloc _) _ _ _ (by simp)).alloc _).alloc _
    · exact (blk_new ((w.alloc _).alloc _) _ _ _ (by simp)).alloc _
    · exact blk_new (((w.alloc _).alloc _).alloc _) _ _ _ (by simp)
    · exact ((((Below.refl _ _).alloc (Nat.le_refl _) _).alloc (by simp) _).alloc (by simp; omega) _).alloc (by simp; omega) _
    · simp
  case round =>
    obtain ⟨k, hk8, rfl, h1, h2, h3, h4, hb, hsz⟩ := hrel
    have H1 := Lib.hid h1; have H2 := Lib.hid h2; have H3 := Lib.hid h3; have H4 := Lib.hid h4; have HB := Lib.hid hb; have HS := Lib.hid hsz
    clear h1 h2 h3 h4 hb hsz
    by_cases hk : k < 8
    · have hrd := Lib.hid (blk_part H1.out (4 * k) 4 (32 - 4 * k) (by rw [HK.out]; omega) (by omega) (by omega))
      have hsl := sliceAt_upto (P := Try.prog) wr 49 w.heap.size 32 (4 * k) (4 * k + 4) 5 (4 * (k : Int)) (4 * (k : Int) + 4) Try.underlying49 (by kernel_rfl) (by omega) (by omega) (by omega) (by omega) (by omega)
      rw [show 4 * k + 4 - 4 * k = 4 by omega] at hsl
      have hlow := word_any (some ⟨w.heap.size, 4 * k, none⟩) 4 (32 - 4 * k) _ wr hrd.out (by omega)
      rw [word4_le] at hlow
      have HLOW := Lib.hid hlow
      clear hlow
      go_wp2_with fail
      refine HLOW.out.mono ?_
      rintro e w' ⟨rfl, hbw⟩
      have K1 := Lib.hid (H1.out.below (hbw wr.heap.size) (by have := HS.out; omega))
      have K2 := Lib.hid (H2.out.below (hbw wr.heap.size) (by have := HS.out; omega))
      have K3 := Lib.hid (H3.out.below (hbw wr.heap.size) (by have := HS.out; omega))
      have K4 := Lib.hid (H4.out.below (hbw wr.heap.size) (by have := HS.out; omega))
      have KB := Lib.hid (HB.out.trans (hbw _))
      have KS : Hid (w.heap.size + 4 ≤ w'.heap.size) := Lib.hid (by have := HS.out; have := (hbw wr.heap.size).size; omega)
      have hcl := blk_cell K4.out (4 + k) (by rw [lA.out]; omega)
      have hfr := K4.out.frozen (4 + k)
      clear hbw H1 H2 H3 H4 HB HS
      go_wp2
      go_roundw
      case rel =>
        have ho := only_setCell w' (w.heap.size + 3) (4 + k) (b32 (le32 key (4 * k)))
        exact ⟨k + 1, by omega, by go_num, K1.out.only ho (by omega), K2.out.only ho (by omega), K3.out.only ho (by omega), blk_set K4.out (4 + k) (le32 key (4 * k)), ho.below KB.out (by omega), by rw [ho.size]; exact KS.out⟩
      case measure => simp [intOf]; omega
    · obtain rfl : k = 8 := by omega
      have hcl := blk_cell H4.out 12 (by rw [lA.out]; omega)
      have hfr := H4.out.frozen 12
      go_wp2
      go_loopw [9, 42, 43] (fun i _ _ wr => ∃ k : Nat, k ≤ 3 ∧ i = .int .i64 k ∧ Blk wr (w.heap.size + 1) 50 (nonce.map b8) ∧ Blk wr (w.heap.size + 2) 51 ((List.replicate 64 0#8).map b8) ∧
        Blk wr (w.heap.size + 3) 64 ((stB key ctr nonce k).map b32) ∧ Below w.heap.size w wr ∧ w.heap.size + 4 ≤ wr.heap.size) (fun i _ _ _ => 3 - (intOf i).toNat)
      case atStart =>
        have ho := only_setCell wr (w.heap.size + 3) 12 (b32 ctr)
        exact ⟨0, by omega, rfl, H2.out.only ho (by omega), H3.out.only ho (by omega), blk_set H4.out 12 ctr, ho.below HB.out (by omega), by rw [ho.size]; exact HS.out⟩
      case round =>
        obtain ⟨k, hk8, rfl, h2, h3, h4, hb, hsz⟩ := hrel
        clear H1 H2 H3 H4 HB HS hcl hfr hk
        have H2 := Lib.hid h2; have H3 := Lib.hid h3; have H4 := Lib.hid h4; have HB := Lib.hid hb; have HS := Lib.hid hsz
        clear h2 h3 h4 hb hsz
        by_cases hk : k < 3
        · have hrd := Lib.hid (blk_part H2.out (4 * k) 4 (12 - 4 * k) (by rw [HN.out]; omega) (by omega) (by omega))
          have hsl := sliceAt_upto (P := Try.prog) wr 50 (w.heap.size + 1) 12 (4 * k) (4 * k + 4) 5 (4 * (k : Int)) (4 * (k : Int) + 4) Try.underlying50 (by kernel_rfl) (by omega) (by omega) (by omega) (by omega) (by omega)
          rw [show 4 * k + 4 - 4 * k = 4 by omega] at hsl
          have hlow := word_any (some ⟨w.heap.size + 1, 4 * k, none⟩) 4 (12 - 4 * k) _ wr hrd.out (by omega)
          rw [word4_le] at hlow
          have HLOW := Lib.hid hlow
          clear hlow
          go_wp2_with fail
          refine HLOW.out.mono ?_
          rintro e w' ⟨rfl, hbw⟩
          have K2 := Lib.hid (H2.out.below (hbw wr.heap.size) (by have := HS.out; omega))
          have K3 := Lib.hid (H3.out.below (hbw wr.heap.size) (by have := HS.out; omega))
          have K4 := Lib.hid (H4.out.below (hbw wr.heap.size) (by have := HS.out; omega))
          have KB := Lib.hid (HB.out.trans (hbw _))
          have KS : Hid (w.heap.size + 4 ≤ w'.heap.size) := Lib.hid (by have := HS.out; have := (hbw wr.heap.size).size; omega)
          have hcl := blk_cell K4.out (13 + k) (by rw [lB.out]; omega)
          have hfr := K4.out.frozen (13 + k)
          clear hbw H2 H3 H4 HB HS
          go_wp2
          go_roundw
          case rel =>
            have ho := only_setCell w' (w.heap.size + 3) (13 + k) (b32 (le32 nonce (4 * k)))
            repeat apply Exists.intro
            exact ⟨⟨k + 1, by omega, by go_num, K2.out.only ho (by omega), K3.out.only ho (by omega), blk_set K4.out (13 + k) (le32 nonce (4 * k)), ho.below KB.out (by omega), by rw [ho.size]; exact KS.out⟩, rfl⟩
          case measure => simp [intOf]; omega
        · obtain rfl : k = 3 := by omega
          clear hk
          have HL := Lib.hid (stB_len key ctr nonce 3)
          obtain ⟨wo, rfl⟩ : ∃ wo : World, wo = wr := ⟨_, rfl⟩
          go_upto_region 11 with (fail)
          apply wp_region_lit
          refine wpList_load_blk rfl rfl rfl H4.out Try.underlying64 (by rw [List.length_map, HL.out]; kernel_rfl) ?_
          go_step
          go_step
          go_step
          refine wpList_store_blk rfl rfl rfl rfl (blk_new wo _ _ _ rfl) (by rw [List.length_map, HL.out]; kernel_rfl) (by rw [List.length_map, HL.out]; rfl) (b32s_one _) ?_
          intro W1 hk1 ho1
          have RI0 : Hid (RI w wo.heap.size (List.replicate 64 0#8) (stB key ctr nonce 3) (stB key ctr nonce 3) W1) := Lib.hid
            ⟨(H3.out.alloc _).only ho1 (by have := HS.out; omega), (H4.out.alloc _).only ho1 (by have := HS.out; omega), hk1, ho1.below (HB.out.alloc (by have := HS.out; omega) _) (by have := HS.out; omega), by have := HS.out; omega, by rw [ho1.size]; simp⟩
          clear hk1 ho1 H2 H3 H4 HB HS
          go_wp2
          go_loopw [11] (fun i wr => ∃ k : Nat, k ≤ 10 ∧ i = .int .i64 k ∧ RI w wo.heap.size (List.replicate 64 0#8) (stB key ctr nonce 3) (rounds (stB key ctr nonce 3) k) wr) (fun i _ => 10 - (intOf i).toNat)
          case atStart => exact ⟨0, by omega, rfl, RI0.out⟩
          case round =>
            obtain ⟨k, hk10, rfl, hri⟩ := hrel
            clear RI0
            have RI0 := Lib.hid hri
            clear hri
            by_cases hk : k < 10
            · skip
              have len0 : Hid ((rounds (stB key ctr nonce 3) k).length = 16) := Lib.hid (by simp only [qr4_len, rounds_len, stB_len])
              go_upto_region 15 with (fail)
              apply wp_region_lit
              refine wpList_load_blk rfl rfl rfl RI0.out.v Try.underlying64 (by rw [List.length_map, len0.out]; kernel_rfl) ?_
              go_wp2_with fail
              refine (round_any _ 0 4 8 12 _ len0.out (by omega) (by omega) (by omega) (by omega) (by omega) (by omega) (by omega)).mono ?_
              rintro e W0 ⟨rfl, hb0⟩
              have RJ0 := Lib.hid (RI0.out.call hb0)
              clear hb0 RI0
              go_upto_region 16 with (refine wpList_store_blk rfl rfl rfl rfl RJ0.out.v (by rw [List.length_map, qr4_len, len0.out]; kernel_rfl) (by simp only [List.length_map, qr4_len]) (b32s_one _) ?_; intro V0 hk0 ho0)
              have RI1 := Lib.hid (RJ0.out.put hk0 ho0)
              clear hk0 ho0 RJ0
              have len1 : Hid ((qr4 (rounds (stB key ctr nonce 3) k) 0 4 8 12).length = 16) := Lib.hid (by simp only [qr4_len, rounds_len, stB_len])
              apply wp_region_lit
              refine wpList_load_blk rfl rfl rfl RI1.out.v Try.underlying64 (by rw [List.length_map, len1.out]; kernel_rfl) ?_
              go_wp2_with fail
              refine (round_any _ 1 5 9 13 _ len1.out (by omega) (by omega) (by omega) (by omega) (by omega) (by omega) (by omega)).mono ?_
              rintro e W1 ⟨rfl, hb1⟩
              have RJ1 := Lib.hid (RI1.out.call hb1)
              clear hb1 RI1
              go_upto_region 17 with (refine wpList_store_blk rfl rfl rfl rfl RJ1.out.v (by rw [List.length_map, qr4_len, len1.out]; kernel_rfl) (by simp only [List.length_map, qr4_len]) (b32s_one _) ?_; intro V1 hk1 ho1)
              have RI2 := Lib.hid (RJ1.out.put hk1 ho1)
              clear hk1 ho1 RJ1
              have len2 : Hid ((qr4 (qr4 (rounds (stB key ctr nonce 3) k) 0 4 8 12) 1 5 9 13).length = 16) := Lib.hid (by simp only [qr4_len, rounds_len, stB_len])
              apply wp_region_lit
              refine wpList_load_blk rfl rfl rfl RI2.out.v Try.underlying64 (by rw [List.length_map, len2.out]; kernel_rfl) ?_
              go_wp2_with fail
              refine (round_any _ 2 6 10 14 _ len2.out (by omega) (by omega) (by omega) (by omega) (by omega) (by omega) (by omega)).mono ?_
              rintro e W2 ⟨rfl, hb2⟩
              have RJ2 := Lib.hid (RI2.out.call hb2)
              clear hb2 RI2
              go_upto_region 18 with (refine wpList_store_blk rfl rfl rfl rfl RJ2.out.v (by rw [List.length_map, qr4_len, len2.out]; kernel_rfl) (by simp only [List.length_map, qr4_len]) (b32s_one _) ?_; intro V2 hk2 ho2)
              have RI3 := Lib.hid (RJ2.out.put hk2 ho2)
              clear hk2 ho2 RJ2
              have len3 : Hid ((qr4 (qr4 (qr4 (rounds (stB key ctr nonce 3) k) 0 4 8 12) 1 5 9 13) 2 6 10 14).length = 16) := Lib.hid (by simp only [qr4_len, rounds_len, stB_len])
              apply wp_region_lit
              refine wpList_load_blk rfl rfl rfl RI3.out.v Try.underlying64 (by rw [List.length_map, len3.out]; kernel_rfl) ?_
              go_wp2_with fail
              refine (round_any _ 3 7 11 15 _ len3.out (by omega) (by omega) (by omega) (by omega) (by omega) (by omega) (by omega)).mono ?_
              rintro e W3 ⟨rfl, hb3⟩
              have RJ3 := Lib.hid (RI3.out.call hb3)
              clear hb3 RI3
              go_upto_region 19 with (refine wpList_store_blk rfl rfl rfl rfl RJ3.out.v (by rw [List.length_map, qr4_len, len3.out]; kernel_rfl) (by simp only [List.length_map, qr4_len]) (b32s_one _) ?_; intro V3 hk3 ho3)
              have RI4 := Lib.hid (RJ3.out.put hk3 ho3)
              clear hk3 ho3 RJ3
              have len4 : Hid ((qr4 (qr4 (qr4 (qr4 (rounds (stB key ctr nonce 3) k) 0 4 8 12) 1 5 9 13) 2 6 10 14) 3 7 11 15).length = 16) := Lib.hid (by simp only [qr4_len, rounds_len, stB_len])
              apply wp_region_lit
              refine wpList_load_blk rfl rfl rfl RI4.out.v Try.underlying64 (by rw [List.length_map, len4.out]; kernel_rfl) ?_
              go_wp2_with fail
              refine (round_any _ 0 5 10 15 _ len4.out (by omega) (by omega) (by omega) (by omega) (by omega) (by omega) (by omega)).mono ?_
              rintro e W4 ⟨rfl, hb4⟩
              have RJ4 := Lib.hid (RI4.out.call hb4)
              clear hb4 RI4
              go_upto_region 20 with (refine wpList_store_blk rfl rfl rfl rfl RJ4.out.v (by rw [List.length_map, qr4_len, len4.out]; kernel_rfl) (by simp only [List.length_map, qr4_len]) (b32s_one _) ?_; intro V4 hk4 ho4)
              have RI5 := Lib.hid (RJ4.out.put hk4 ho4)
              clear hk4 ho4 RJ4
              have len5 : Hid ((qr4 (qr4 (qr4 (qr4 (qr4 (rounds (stB key ctr nonce 3) k) 0 4 8 12) 1 5 9 13) 2 6 10 14) 3 7 11 15) 0 5 10 15).length = 16) := Lib.hid (by simp only [qr4_len, rounds_len, stB_len])
              apply wp_region_lit
              refine wpList_load_blk rfl rfl rfl RI5.out.v Try.underlying64 (by rw [List.length_map, len5.out]; kernel_rfl) ?_
              go_wp2_with fail
              refine (round_any _ 1 6 11 12 _ len5.out (by omega) (by omega) (by omega) (by omega) (by omega) (by omega) (by omega)).mono ?_
              rintro e W5 ⟨rfl, hb5⟩
              have RJ5 := Lib.hid (RI5.out.call hb5)
              clear hb5 RI5
              go_upto_region 21 with (refine wpList_store_blk rfl rfl rfl rfl RJ5.out.v (by rw [List.length_map, qr4_len, len5.out]; kernel_rfl) (by simp only [List.length_map, qr4_len]) (b32s_one _) ?_; intro V5 hk5 ho5)
              have RI6 := Lib.hid (RJ5.out.put hk5 ho5)
              clear hk5 ho5 RJ5
              have len6 : Hid ((qr4 (qr4 (qr4 (qr4 (qr4 (qr4 (rounds (stB key ctr nonce 3) k) 0 4 8 12) 1 5 9 13) 2 6 10 14) 3 7 11 15) 0 5 10 15) 1 6 11 12).length = 16) := Lib.hid (by simp only [qr4_len, rounds_len, stB_len])
              apply wp_region_lit
              refine wpList_load_blk rfl rfl rfl RI6.out.v Try.underlying64 (by rw [List.length_map, len6.out]; kernel_rfl) ?_
              go_wp2_with fail
              refine (round_any _ 2 7 8 13 _ len6.out (by omega) (by omega) (by omega) (by omega) (by omega) (by omega) (by omega)).mono ?_
              rintro e W6 ⟨rfl, hb6⟩
              have RJ6 := Lib.hid (RI6.out.call hb6)
              clear hb6 RI6
              go_upto_region 22 with (refine wpList_store_blk rfl rfl rfl rfl RJ6.out.v (by rw [List.length_map, qr4_len, len6.out]; kernel_rfl) (by simp only [List.length_map, qr4_len]) (b32s_one _) ?_; intro V6 hk6 ho6)
              have RI7 := Lib.hid (RJ6.out.put hk6 ho6)
              clear hk6 ho6 RJ6
              have len7 : Hid ((qr4 (qr4 (qr4 (qr4 (qr4 (qr4 (qr4 (rounds (stB key ctr nonce 3) k) 0 4 8 12) 1 5 9 13) 2 6 10 14) 3 7 11 15) 0 5 10 15) 1 6 11 12) 2 7 8 13).length = 16) := Lib.hid (by simp only [qr4_len, rounds_len, stB_len])
              apply wp_region_lit
              refine wpList_load_blk rfl rfl rfl RI7.out.v Try.underlying64 (by rw [List.length_map, len7.out]; kernel_rfl) ?_
              go_wp2_with fail
              refine (round_any _ 3 4 9 14 _ len7.out (by omega) (by omega) (by omega) (by omega) (by omega) (by omega) (by omega)).mono ?_
              rintro e W7 ⟨rfl, hb7⟩
              have RJ7 := Lib.hid (RI7.out.call hb7)
              clear hb7 RI7
              go_wp2_with (refine wpList_store_blk rfl rfl rfl rfl RJ7.out.v (by rw [List.length_map, qr4_len, len7.out]; kernel_rfl) (by simp only [List.length_map, qr4_len]) (b32s_one _) ?_; intro V7 hk7 ho7)
              have RI8 := Lib.hid (RJ7.out.put hk7 ho7)
              clear hk7 ho7 RJ7
              go_wp2
              go_roundw
              case rel =>
                exact ⟨k + 1, by omega, by go_num, RI8.out⟩
              case measure => simp [intOf]; omega
            · obtain rfl : k = 10 := by omega
              clear hk
              obtain ⟨wf, rfl⟩ : ∃ wf : World, wf = wr := ⟨_, rfl⟩
              have hsz := RI0.out.n
              have hgl := RI0.out.gl
              have HV := Lib.hid (rounds_len (stB key ctr nonce 3) 10)
              go_wp2
              go_loopw [13] (fun i wr => ∃ k : Nat, k ≤ 64 ∧ i = .int .i64 k ∧ RI w wo.heap.size (List.replicate 64 0#8) (stB key ctr nonce 3) (rounds (stB key ctr nonce 3) 10) wr ∧ Blk wr wf.heap.size 51 ((putb (rounds (stB key ctr nonce 3) 10) (stB key ctr nonce 3) k).map b8)) (fun i _ => 64 - (intOf i).toNat)
              case atStart => exact ⟨0, by omega, rfl, ⟨RI0.out.o.alloc _, RI0.out.s.alloc _, RI0.out.v.alloc _, RI0.out.b.alloc (by omega) _, RI0.out.gl, by simp; omega⟩, blk_new wf _ _ _ rfl⟩
              case round =>
                obtain ⟨k, hk64, rfl, hri, hpb⟩ := hrel
                clear RI0
                have RI0 := Lib.hid hri
                have PB := Lib.hid hpb
                clear hri hpb
                have HP := Lib.hid (putb_len (rounds (stB key ctr nonce 3) 10) (stB key ctr nonce 3) k)
                by_cases hk : k < 64
                · obtain ⟨q, hq, hq'⟩ : ∃ q : Nat, (k : Int) / 4 = (q : Int) ∧ q = k / 4 := ⟨k / 4, by omega, rfl⟩
                  obtain ⟨r0, hr0, hr0'⟩ : ∃ r : Nat, (k : Int).tmod 4 = (r : Int) ∧ r = k % 4 := ⟨k % 4, by rw [Int.tmod_eq_emod_of_nonneg (by omega)]; omega, rfl⟩
                  obtain ⟨r, hr1, hr'⟩ : ∃ r : Nat, 8 * (r0 : Int) = (r : Int) ∧ r = 8 * (k % 4) := ⟨8 * r0, by omega, by rw [hr0']⟩
                  have wr0 : IntKind.i64.wrap (r : Int) = (r : Int) := IntWalk.i64_in _ (by omega)
                  have wr1 : IntKind.u64.wrap (r : Int) = (r : Int) := IntWalk.u64_in _ (by omega)
                  have wq0 : IntKind.i64.wrap (q : Int) = (q : Int) := IntWalk.i64_in _ (by omega)
                  have q2 : (q : Int) < 16 := by omega
                  have k2 : (k : Int) < 64 := by omega
                  have r2 : r < 32 := by omega
                  have c0 := blk_cell RI0.out.v q (by rw [HV.out, HL.out]; omega)
                  have c1 := blk_cell RI0.out.s q (by rw [HL.out]; omega)
                  have c2 := blk_cell PB.out k (by rw [HP.out]; omega)
                  have f2 := PB.out.frozen k
                  have HQ := Lib.hid hq'
                  have HR := Lib.hid hr'
                  clear hq' hr' hr0'
                  go_upto_region 27 with (fail)
                  refine wp_region_any (by kernel_rfl) ?_
                  change wpAny _ _ _ _ _ _ _ (World.drew _)
                  refine wpAny_take (i := 0) (v := ?_) rfl (by kernel_rfl) (by kernel_rfl) (by kernel_rfl) (fun _ _ _ h => h) (Or.inl ⟨by rfl, ?_⟩) ?_
                  rotate_left
                  · (intro w; go_simp; try with_reducible rfl)
                  refine wpAny_take (i := 1) (v := ?_) rfl (by kernel_rfl) (by kernel_rfl) (by kernel_rfl) (fun _ _ _ h => h) (Or.inl ⟨by rfl, ?_⟩) ?_
                  rotate_left
                  · (intro w; go_simp; try with_reducible rfl)
                  refine wpAny_take (i := 2) (v := ?_) rfl (by kernel_rfl) (by kernel_rfl) (by kernel_rfl) (fun _ _ _ h => h) (Or.inl ⟨by rfl, ?_⟩) ?_
                  rotate_left
                  · (intro w; go_simp; try with_reducible rfl)
                  refine wpAny_take (i := 3) (v := ?_) rfl (by kernel_rfl) (by kernel_rfl) (by kernel_rfl) (fun _ _ _ h => h) (Or.inl ⟨by rfl, ?_⟩) ?_
                  rotate_left
                  · (intro w; go_simp; try with_reducible rfl)
                  refine wpAny_take (i := 5) (v := ?_) rfl (by kernel_rfl) (by kernel_rfl) (by kernel_rfl) (fun _ _ _ h => h) (Or.inl ⟨by rfl, ?_⟩) ?_
                  rotate_left
                  · (intro w; go_simp; try with_reducible rfl)
                  refine wpAny_take (i := 6) (v := ?_) rfl (by kernel_rfl) (by kernel_rfl) (by kernel_rfl) (fun _ _ _ h => h) (Or.inl ⟨by rfl, ?_⟩) ?_
                  rotate_left
                  · (intro w; go_simp; try with_reducible rfl)
                  refine wpAny_take (i := 7) (v := ?_) rfl (by kernel_rfl) (by kernel_rfl) (by kernel_rfl) (fun _ _ _ h => h) (Or.inl ⟨by rfl, ?_⟩) ?_
                  rotate_left
                  · (intro w; go_simp; try with_reducible rfl)
                  refine wpAny_take (i := 10) (v := ?_) rfl (by kernel_rfl) (by kernel_rfl) (by kernel_rfl) (fun _ _ _ h => h) (Or.inl ⟨by rfl, ?_⟩) ?_
                  rotate_left
                  · (intro w; go_simp; try with_reducible rfl)
                  refine wpAny_take (i := 11) (v := ?_) rfl (by kernel_rfl) (by kernel_rfl) (by kernel_rfl) (fun _ _ _ h => h) (Or.inl ⟨by rfl, ?_⟩) ?_
                  rotate_left
                  · (intro w; go_simp; try with_reducible rfl)
                  refine wpAny_take (i := 12) (v := ?_) rfl (by kernel_rfl) (by kernel_rfl) (by kernel_rfl) (fun _ _ _ h => h) (Or.inl ⟨by rfl, ?_⟩) ?_
                  rotate_left
                  · (intro w; go_simp; try with_reducible rfl)
                  refine wpAny_take (i := 13) (v := ?_) rfl (by kernel_rfl) (by kernel_rfl) (by kernel_rfl) (fun _ _ _ h => h) (Or.inl ⟨by rfl, ?_⟩) ?_
                  rotate_left
                  · (intro w; go_simp; try with_reducible rfl)
                  refine wpM_phase (head := fun j => [4, 8].contains j) (l₀ := #[true, true, true, true, true, true, true, true, true, false, true, true, true, true, false, false, false, false]) (f := 2) (g := 5) (by kernel_rfl) ?_
                  refine wpM_load (i := 4) (v := ?_) rfl (by kernel_rfl) (by kernel_rfl) (by kernel_rfl) (by kernel_rfl) (by kernel_rfl) (Or.inl ⟨by rfl, Or.inl ?_⟩) ?_
                  rotate_left
                  · (go_simp; try with_reducible rfl)
                  refine wpM_load (i := 8) (v := ?_) rfl (by kernel_rfl) (by kernel_rfl) (by kernel_rfl) (by kernel_rfl) (by kernel_rfl) (Or.inl ⟨by rfl, Or.inl ?_⟩) ?_
                  rotate_left
                  · (go_simp; try with_reducible rfl)
                  refine ⟨by kernel_rfl, ?_⟩
                  refine wpAny_take (i := 9) (v := ?_) rfl (by kernel_rfl) (by kernel_rfl) (by kernel_rfl) (fun _ _ _ h => h) (Or.inl ⟨by rfl, ?_⟩) ?_
                  rotate_left
                  · (intro w; go_simp; try with_reducible rfl)
                  refine wpAny_take (i := 14) (v := ?_) rfl (by kernel_rfl) (by kernel_rfl) (by kernel_rfl) (fun _ _ _ h => h) (Or.inl ⟨by rfl, ?_⟩) ?_
                  rotate_left
                  · (intro w; go_simp; try with_reducible rfl)
                  refine wpAny_take (i := 15) (v := ?_) rfl (by kernel_rfl) (by kernel_rfl) (by kernel_rfl) (fun _ _ _ h => h) (Or.inl ⟨by rfl, ?_⟩) ?_
                  rotate_left
                  · (intro w; go_simp; try with_reducible rfl)
                  refine wpAny_take (i := 16) (v := ?_) rfl (by kernel_rfl) (by kernel_rfl) (by kernel_rfl) (fun _ _ _ h => h) (Or.inl ⟨by rfl, ?_⟩) ?_
                  rotate_left
                  · (intro w; go_simp; try with_reducible rfl)
                  refine wpAny_only (i := 17) rfl (by kernel_rfl) rfl (fun K hK => ?_)
                  go_simp
                  refine hK _ _ ?_
                  clear hK K
                  refine wpAny_done (by kernel_rfl) ?_ _
                  go_wp2
                  go_roundw
                  case rel =>
                    have ho := (only_setCell wr wf.heap.size k (b8 (obyte (rounds (stB key ctr nonce 3) 10) (stB key ctr nonce 3) k)))
                    have hz := (blk_set (enc := b8) PB.out k (obyte (rounds (stB key ctr nonce 3) 10) (stB key ctr nonce 3) k)).drew
                    simp only [obyte, ← HQ.out, ← HR.out] at ho hz
                    have hR : RI w wo.heap.size (List.replicate 64 0#8) (stB key ctr nonce 3) (rounds (stB key ctr nonce 3) 10) _ := ⟨(RI0.out.o.only ho (by omega)).drew, (RI0.out.s.only ho (by omega)).drew, (RI0.out.v.only ho (by omega)).drew, ho.drew.below RI0.out.b (by omega), RI0.out.gl, (congrArg (wo.heap.size < ·) ho.size.symm).mp RI0.out.n⟩
                    repeat apply Exists.intro
                    refine ⟨⟨k + 1, by omega, ?g, hR, ?b⟩, ?f⟩
                    case f => rfl
                    case g => go_num
                    case b => simp only [putb, obyte, ← HQ.out, ← HR.out]; exact hz
                  case measure => simp [intOf]; omega
                · obtain rfl : k = 64 := by omega
                  clear hk
                  have HE := Lib.hid (putb_outb (rounds (stB key ctr nonce 3) 10) (stB key ctr nonce 3))
                  have HP64 : Hid ((putb (rounds (stB key ctr nonce 3) 10) (stB key ctr nonce 3) 64).length = 64) := HP
                  go_upto_region 28 with (fail)
                  apply wp_region_lit
                  refine wpList_load_blk rfl rfl rfl PB.out Try.underlying51 (by rw [List.length_map, HP64.out]; kernel_rfl) ?_
                  refine wpList_store_blk rfl rfl rfl rfl RI0.out.o (by rw [List.length_map, HP64.out]; kernel_rfl) (by rw [List.length_map, List.length_map, HP64.out]; rfl) (b8s_one _) ?_
                  intro w6 h6 ho6
                  go_wp2
                  refine bodyPost_end (results_blk rfl _ rfl h6 Try.underlying51 (by rw [List.length_map, HP64.out]; kernel_rfl)) rfl ⟨?_, ho6.below RI0.out.b (by omega)⟩
                  rw [HE.out]; rfl
end Go.Proofs.Ytchfhndpbfohhaa
