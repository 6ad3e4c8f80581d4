/- The walk of the law ChachaBlocks. No conditions. -/
import Derived.Test.YtchfhndpbfohhaaBlocksF
import Derived.Test.YtchfhndpbfohhaaArrEq2
import Derived.Test.YtchfhndpbfohhaaWalkChachaQuarterBack
namespace Go.Proofs.Ytchfhndpbfohhaa
set_option linter.unusedVariables false
set_option linter.unusedSimpArgs false
open Go.RowKit Bv
attribute [local go_sem] add32 sub32 xor32 or32 n32_beq
theorem cbl_at (key nonce : List (BitVec 8)) (ctr : BitVec 32) (j : Nat) : ∀ N, j < N → ((cbl key nonce ctr N).drop (64 * j)).take 64 = cblock key (ctr + BitVec.ofNat 32 j) nonce
  | N + 1, h => by
    by_cases hj : j < N
    · rw [cbl, List.drop_append_of_le_length (by rw [cbl_len]; omega), List.take_append_of_le_length (by rw [List.length_drop, cbl_len]; omega)]
      exact cbl_at key nonce ctr j N hj
    · obtain rfl : j = N := by omega
      rw [cbl, List.drop_left' (by rw [cbl_len]; omega), List.take_of_length_le (by rw [cblock_len]; omega)]
theorem cv_ofNat (j : Nat) : IntKind.u32.wrap (j : Int) = n32 (BitVec.ofNat 32 j) := by rw [Bv.wrap32, BitVec.ofInt_natCast]
set_option maxHeartbeats 4000000 in
theorem ChachaBlocks_walk (key : List (BitVec 8)) (ctr : BitVec 32) (nonce : List (BitVec 8)) (xs : List (BitVec 32)) (n : BitVec 64) (w : World) (hk : key.length = 32) (hn : nonce.length = 12) (hx : xs.length = 4) :
    Calls Try.prog 10 #[.agg (key.map b8).toArray, b32 ctr, .agg (nonce.map b8).toArray, .agg (xs.map b32).toArray, .int .i64 (i64 n)] w fun e w' => e = .returned (.bool true) ∧ Below w.heap.size w w' := by
  obtain ⟨q, rfl⟩ := four_of xs hx
  clear hx
  have HK := Lib.hid hk; have HN := Lib.hid hn
  obtain ⟨N, hN, hN1, hN6⟩ : ∃ N : Nat, RowKit.wrap64 (1 + RowKit.wrap64 ((IntKind.u64.wrap (i64 n)).tmod 6)) = (N : Int) ∧ 1 ≤ N ∧ N ≤ 6 := by
    refine ⟨1 + n.toNat % 6, ?_, by omega, by omega⟩
    rw [i64_u64]
    unfold n64
    rw [Int.tmod_eq_emod_of_nonneg (by omega)]
    simp [RowKit.wrap64]
    omega
  have d0 := Lib.hid awake05
  have q0 := Lib.hid (quarter_any q)
  have q1 := Lib.hid (rquarter_any q)
  clear hk hn
  show Calls Try.prog 10 #[.agg (key.map b8).toArray, b32 ctr, .agg (nonce.map b8).toArray, .agg #[b32 q.a, b32 q.b, b32 q.c, b32 q.d], .int .i64 (i64 n)] w _
  go_enter Try.func10, Try.ntmps10
  go_upto_region 3 with (first | ((with_reducible refine (q0.out _).mono ?_); rintro e w' ⟨rfl, rfl⟩) | ((with_reducible refine (q1.out _).mono ?_); rintro e w' ⟨rfl, rfl⟩))
  refine name_world (fun W => Blk W w.heap.size 49 (key.map b8) ∧ Blk W (w.heap.size + 1) 50 (nonce.map b8) ∧ Below w.heap.size w W ∧ w.heap.size + 3 ≤ W.heap.size) ?hp ?_
  case hp =>
    have hb := (((Below.refl w.heap.size w).alloc (Nat.le_refl _) (.cells (key.map b8).toArray 49 (0, 0))).alloc (by simp) (.cells (nonce.map b8).toArray 50 (0, 0))).alloc (by simp; omega) (.cells #[b32 q.a, b32 q.b, b32 q.c, b32 q.d] 44 (0, 0))
    exact ⟨((blk_new w _ _ _ rfl).alloc _).alloc _, (blk_new (w.alloc _) _ _ _ (by simp)).alloc _, hb, by simp⟩
  rintro W0 ⟨h1, h2, h3, h4⟩
  have K1 := Lib.hid h1; have K2 := Lib.hid h2; have KB := Lib.hid h3; have KS := Lib.hid h4
  clear h1 h2 h3 h4
  refine wp_region_loud (by kernel_rfl) (by kernel_rfl) ?_
  (go_big_quiet_want; go_big_quiet_op; refine ⟨_, (fun w hb => loud_call hb (loud_same (d0.out w))), ?_⟩; go_big_quiet_on)
  iterate 22 (first | go_big_quiet_skip | (go_big_quiet_want; go_big_quiet_op; go_big_quiet_on))
  (go_big_quiet_want; (refine quiet_load_blk rfl rfl K1.out Try.underlying49 (by rw [List.length_map, HK.out]; kernel_rfl) ?_); simp only [Act.put, List.setIfInBounds_toArray, List.set_cons_succ, List.set_cons_zero]; go_big_quiet_on)
  (first | go_big_quiet_skip | (go_big_quiet_want; go_big_quiet_op; go_big_quiet_on))
  (go_big_quiet_want; (refine quiet_load_blk rfl rfl K2.out Try.underlying50 (by rw [List.length_map, HN.out]; kernel_rfl) ?_); simp only [Act.put, List.setIfInBounds_toArray, List.set_cons_succ, List.set_cons_zero]; go_big_quiet_on)
  (go_big_quiet_want; go_big_quiet_op; refine ⟨_, (fun w hb => loud_call hb (block_any key nonce ctr w HK.out HN.out)), ?_⟩; go_big_quiet_on)
  (go_big_quiet_want; (refine quiet_load_blk rfl rfl K1.out Try.underlying49 (by rw [List.length_map, HK.out]; kernel_rfl) ?_); simp only [Act.put, List.setIfInBounds_toArray, List.set_cons_succ, List.set_cons_zero]; go_big_quiet_on)
  (first | go_big_quiet_skip | (go_big_quiet_want; go_big_quiet_op; go_big_quiet_on))
  (go_big_quiet_want; (refine quiet_load_blk rfl rfl K2.out Try.underlying50 (by rw [List.length_map, HN.out]; kernel_rfl) ?_); simp only [Act.put, List.setIfInBounds_toArray, List.set_cons_succ, List.set_cons_zero]; go_big_quiet_on)
  (go_big_quiet_want; go_big_quiet_op; refine ⟨_, (fun w hb => loud_call hb (rblock_any key nonce ctr w HK.out HN.out)), ?_⟩; go_big_quiet_on)
  (go_big_quiet_want; (refine quiet_neq_arr (xs := cblock key ctr nonce) (ys := cblock key ctr nonce) rfl rfl rfl Try.underlying51 Try.underlying5 (by kernel_rfl) eg64 (cblock_len _ _ _) (cblock_len _ _ _) ?_); simp only [Act.put, List.setIfInBounds_toArray, List.set_cons_succ, List.set_cons_zero]; go_big_quiet_on)
  rw [beq_self_eq_true, Bool.not_true]
  (first | go_big_quiet_skip | (go_big_quiet_want; go_big_quiet_op; go_big_quiet_on))
  refine wpQuiet_nil ?_
  intro W1 hb1
  have L1 := Lib.hid (K1.out.below hb1 K1.out.lt)
  have L2 := Lib.hid (K2.out.below hb1 K2.out.lt)
  have LB := Lib.hid (KB.out.trans (hb1.mono KB.out.size))
  have LS : Hid (w.heap.size + 3 ≤ W1.heap.size) := Lib.hid (by have := hb1.size; have := KS.out; omega)
  clear K1 K2 KB KS hb1 W0
  go_upto_region 6 with (fail)
  apply wp_region_lit
  refine wpList_load_blk rfl rfl rfl L1.out Try.underlying49 (by rw [List.length_map, HK.out]; kernel_rfl) ?_
  refine wpList_load_blk rfl rfl rfl L2.out Try.underlying50 (by rw [List.length_map, HN.out]; kernel_rfl) ?_
  go_wp2_with fail
  refine (blocks_any key nonce ctr _).mono ?_
  rintro e W2 ⟨rfl, hsq, hb2, hs2⟩
  obtain ⟨g, hg⟩ : ∃ g, g = W1.heap.size := ⟨_, rfl⟩
  rw [← hg] at hsq hs2 ⊢
  have M1 := Lib.hid (L1.out.below hb2 L1.out.lt)
  have M2 := Lib.hid (L2.out.below hb2 L2.out.lt)
  have MQ := Lib.hid hsq
  have MB := Lib.hid (LB.out.trans (hb2.mono LB.out.size))
  have MG : Hid (w.heap.size + 3 ≤ g ∧ g + 3 ≤ W2.heap.size) := Lib.hid ⟨by have := LS.out; omega, by omega⟩
  clear L1 L2 LB LS hsq hb2 hs2 hg
  go_upto_region 7 with (fail)
  go_wp2
  go_loopw [20, 21, 22] (fun i _ _ wr => ∃ r : Nat, r ≤ 2 ∧ i = .int .i64 r ∧ Blk wr w.heap.size 49 (key.map b8) ∧ Blk wr (w.heap.size + 1) 50 (nonce.map b8) ∧ SeqAt key nonce ctr g wr ∧ Below w.heap.size w wr ∧ g + 3 ≤ wr.heap.size) (fun i _ _ _ => 2 - (intOf i).toNat)
  case atStart => exact ⟨0, by omega, rfl, M1.out, M2.out, MQ.out, MB.out, MG.out.2⟩
  case round =>
    obtain ⟨r, hr2, rfl, h1, h2, h3, h4, h5⟩ := hrel
    have hg := MG.out.1
    clear M1 M2 MQ MB MG
    have M1 := Lib.hid h1; have M2 := Lib.hid h2; have MQ := Lib.hid h3; have MB := Lib.hid h4; have MG := Lib.hid h5
    clear h1 h2 h3 h4 h5
    by_cases hr : r < 2
    · go_wp2_with fail
      refine (first_any key nonce ctr g N _ HK.out HN.out (by have := MG.out; omega) (by omega) (by omega) MQ.out).mono ?_
      rintro e W3 ⟨A, c, rfl, hown, hb3⟩
      have LO := Lib.hid hown
      have L1 := Lib.hid (M1.out.below hb3 M1.out.lt)
      have L2 := Lib.hid (M2.out.below hb3 M2.out.lt)
      have LQ := Lib.hid (MQ.out.step hb3 (by have := MG.out; omega))
      have LB := Lib.hid (MB.out.trans (hb3.mono MB.out.size))
      have LG : Hid (g + 3 ≤ W3.heap.size) := Lib.hid (by have := MG.out; have := hb3.size; omega)
      clear M1 M2 MQ MB MG hown hb3
      go_wp2
      obtain ⟨g', rfl, hg1, hg2, hg3, hg4, hcell⟩ := ownN_some LO.out (by omega)
      go_loopw [22] (fun i wq => ∃ j : Nat, j ≤ N ∧ i = .int .i64 j ∧ Below W3.heap.size W3 wq) (fun i _ => N - (intOf i).toNat)
      case atStart => exact ⟨0, by omega, rfl, Below.refl _ _⟩
      case round =>
        obtain ⟨j, hjN, rfl, hbq⟩ := hrel
        have HBQ := Lib.hid hbq
        have hszq := hbq.size
        clear hbq
        by_cases hj : j < N
        · have hjj : (j : Int) < N := by omega
          have K1 := Lib.hid (L1.out.below HBQ.out L1.out.lt)
          have K2 := Lib.hid (L2.out.below HBQ.out L2.out.lt)
          have hcv := cv_ofNat j
          have hlen : Hid ((cblock key (ctr + BitVec.ofNat 32 j) nonce).length = 64) := Lib.hid (cblock_len _ _ _)
          have hat := Lib.hid (cbl_at key nonce ctr j N hj)
          have HC := Lib.hid hcell
          clear hcell
          go_upto_region 16 with (fail)
          refine wp_region_loud (by kernel_rfl) (by kernel_rfl) ?_
          (first | go_big_quiet_skip | (go_big_quiet_want; go_big_quiet_op; go_big_quiet_on))
          (first | go_big_quiet_skip | (go_big_quiet_want; go_big_quiet_op; go_big_quiet_on))
          (first | go_big_quiet_skip | (go_big_quiet_want; go_big_quiet_op; go_big_quiet_on))
          have hce : ∀ i u, ((cblock key (ctr + BitVec.ofNat 32 j) nonce).map b8)[i]? = some u → wr.cell? ⟨g', 64 * j + i, none⟩ = some u := fun i u hi => by
            refine (Below.cell HBQ.out (p := ⟨g', 64 * j + i, none⟩) hg2).trans (HC.out _ _ ?_)
            rw [← hat.out, List.map_take, List.map_drop] at hi
            have hi64 : i < 64 := by have := (List.getElem?_eq_some_iff.1 hi).1; simp at this; omega
            rw [List.getElem?_take_of_lt hi64, List.getElem?_drop] at hi
            exact hi
          (go_big_quiet_want; (refine quiet_load_cells (ad := ⟨g', j * 64, none⟩) (cs := (cblock key (ctr + BitVec.ofNat 32 j) nonce).map b8) rfl rfl (fun i u hi => by rw [Addr.add_lit, Nat.mul_comm j 64]; exact hce i u hi) (Nat.lt_of_lt_of_le hg2 hszq) Try.underlying51 (by rw [List.length_map, hlen.out]; kernel_rfl) ?_); simp only [Act.put, List.setIfInBounds_toArray, List.set_cons_succ, List.set_cons_zero]; go_big_quiet_on)
          (go_big_quiet_want; (refine quiet_load_blk rfl rfl K1.out Try.underlying49 (by rw [List.length_map, HK.out]; kernel_rfl) ?_); simp only [Act.put, List.setIfInBounds_toArray, List.set_cons_succ, List.set_cons_zero]; go_big_quiet_on)
          (first | go_big_quiet_skip | (go_big_quiet_want; go_big_quiet_op; go_big_quiet_on))
          (first | go_big_quiet_skip | (go_big_quiet_want; go_big_quiet_op; go_big_quiet_on))
          (first | go_big_quiet_skip | (go_big_quiet_want; go_big_quiet_op; go_big_quiet_on))
          (first | go_big_quiet_skip | (go_big_quiet_want; go_big_quiet_op; go_big_quiet_on))
          (go_big_quiet_want; (refine quiet_load_blk rfl rfl K2.out Try.underlying50 (by rw [List.length_map, HN.out]; kernel_rfl) ?_); simp only [Act.put, List.setIfInBounds_toArray, List.set_cons_succ, List.set_cons_zero]; go_big_quiet_on)
          (go_big_quiet_want; go_big_quiet_op; refine ⟨_, (fun w hb => loud_call hb (rblock_any key nonce (ctr + BitVec.ofNat 32 j) w HK.out HN.out)), ?_⟩; go_big_quiet_on)
          (go_big_quiet_want; (refine quiet_neq_arr (xs := cblock key (ctr + BitVec.ofNat 32 j) nonce) (ys := cblock key (ctr + BitVec.ofNat 32 j) nonce) rfl rfl rfl Try.underlying51 Try.underlying5 (by kernel_rfl) eg64 hlen.out hlen.out ?_); simp only [Act.put, List.setIfInBounds_toArray, List.set_cons_succ, List.set_cons_zero]; go_big_quiet_on)
          rw [beq_self_eq_true, Bool.not_true]
          refine wpQuiet_nil ?_
          intro W4 hb4
          have HB4 := Lib.hid (HBQ.out.trans (hb4.mono hszq))
          clear hb4 hce
          go_wp2
          go_roundw
          case rel => exact ⟨j + 1, by omega, by go_num, HB4.out⟩
          case measure => simp [intOf]; omega
        · obtain rfl : j = N := by omega
          have M1 := Lib.hid (L1.out.below HBQ.out L1.out.lt)
          have M2 := Lib.hid (L2.out.below HBQ.out L2.out.lt)
          have MQ := Lib.hid (LQ.out.step HBQ.out (by have := LG.out; omega))
          have MB := Lib.hid (LB.out.trans (HBQ.out.mono LB.out.size))
          have MG : Hid (g + 3 ≤ wr.heap.size) := Lib.hid (by have := LG.out; omega)
          go_wp2
          go_roundw
          case rel => exact ⟨r + 1, by omega, by go_num, M1.out, M2.out, MQ.out, MB.out, MG.out⟩
          case measure => simp [intOf]; omega
    · obtain rfl : r = 2 := by omega
      go_wp2
      go_ret
      exact ⟨rfl, MB.out⟩
end Go.Proofs.Ytchfhndpbfohhaa
