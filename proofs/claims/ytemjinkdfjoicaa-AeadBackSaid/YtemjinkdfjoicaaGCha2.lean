/- What the reference block of chacha answers, the sequence of blocks, and bytes turned, by facts. Conditions: lengths far below the greatest. -/
import Derived.Test.YtemjinkdfjoicaaGCha
import Derived.Test.YtemjinkdfjoicaaProg
import Derived.Test.YtemjinkdfjoicaaFwU
namespace Go.Proofs.Ytemjinkdfjoicaa
set_option linter.unusedVariables false
set_option linter.unusedSimpArgs false
set_option linter.unnecessarySimpa false
open Go.RowKit Bv Fw

set_option maxRecDepth 100000 in
set_option maxHeartbeats 4000000 in
theorem crblock_f (key : List (BitVec 8)) (ctr : BitVec 32) (nonce : List (BitVec 8)) (w : World) (hO : HOK [] w) (hk : key.length = 32) (hn : nonce.length = 12) : Calls Try.prog 58 [(.agg (key.map b8).toArray), (b32 ctr), (.agg (nonce.map b8).toArray)].toArray w (Ret (T := Unit) [] w (fun _ => True) (fun _ => (.agg ((cblock key ctr nonce).map b8).toArray)) (fun _ => [])) := by
 have hsa := cstA_len key
 have hsb := cstB_len key ctr nonce
 have hcr := fun k => (crounds_len (cstB key ctr nonce 3) k).trans (hsb 3)
 have hbl := cblock_len key ctr nonce
 have hpb := putb_len (crounds (cstB key ctr nonce 3) 10) (cstB key ctr nonce 3)
 have hF : Wid Fence.wide := wid_wide
 refine enter (c := _) Try.func58 rfl [] [(.agg (key.map b8).toArray), (b32 ctr), (.agg (nonce.map b8).toArray)] [] (by rw [Try.ntmps58]; rfl) (own_rds hO rfl) ?_
 rw [Try.ntmps58]
 refine T_re [(0, (.agg (key.map b8).toArray)), (1, (b32 ctr)), (2, (.agg (nonce.map b8).toArray))] (sc rfl (sc rfl (sc rfl sn))) ?_
 refine T_he [] [] ⟨by decide, rfl⟩ ?_
 refine Tsr hF rfl ?_
 refine L_op rfl (op_box (zs := (key.map b8)) rfl rfl rfl rfl rfl (fun g1 => ?_))
 refine L_op rfl (op_box (zs := (nonce.map b8)) rfl rfl rfl rfl rfl (fun g2 => ?_))
 refine L_op rfl (op_alloc (z := .agg ((List.replicate 64 0#8).map b8).toArray) (zs := ((List.replicate 64 0#8).map b8)) kr rfl rfl rfl rfl (fun g3 => ?_))
 refine L_nil ?_
 refine Tsr hF rfl ?_
 refine lo rfl (pr_build (qs := [(0, (b32 (1634760805#32))), (1, (b32 (857760878#32))), (2, (b32 (2036477234#32))), (3, (b32 (1797285236#32)))]) (v := .agg ([1634760805#32, 857760878#32, 2036477234#32, 1797285236#32, 0#32, 0#32, 0#32, 0#32, 0#32, 0#32, 0#32, 0#32, 0#32, 0#32, 0#32, 0#32].map b32).toArray) (fun _ => by kernel_rfl) rfl rfl) rfl rfl ?_
 refine L_op rfl (op_alloc (z := .agg ((List.replicate 16 0#32).map b32).toArray) (zs := ((List.replicate 16 0#32).map b32)) kr rfl rfl rfl rfl (fun g4 => ?_))
 refine L_op rfl (op_sto (n := 16) (vs := ([1634760805#32, 857760878#32, 2036477234#32, 1797285236#32, 0#32, 0#32, 0#32, 0#32, 0#32, 0#32, 0#32, 0#32, 0#32, 0#32, 0#32, 0#32].map b32)) 0 rfl rfl kr (all32_one _) kr kr rfl rfl rfl rfl ?_)
 refine L_nil ?_
 refine T_seq ?_
 refine Tsr hF rfl ?_
 refine la rfl rfl rfl rfl rfl ?_
 refine L_nil ?_
 refine T_block ?_
 refine T_as 0 _ (.blk g4 90 ((cstA key 0).map b32)) rfl (by rw [cstA_zero]) ?_
 refine T_loop (T := Nat) (fun i => i ≤ 8) (fun i => [(1, (b32 ctr)), (3, (.pointer (some ⟨g1, 0, none⟩))), (5, (.pointer (some ⟨g2, 0, none⟩))), (6, (.pointer (some ⟨g3, 0, none⟩))), (7, (.pointer (some ⟨g4, 0, none⟩))), (8, (.int .i64 ((i : Nat) : Int)))]) (fun i => [.blk g4 90 ((cstA key i).map b32), .blk g3 84 ((List.replicate 64 0#8).map b8), .blk g2 38 (nonce.map b8), .blk g1 22 (key.map b8)]) (fun i => 8 - i) 0 (by first | trivial | ((try dsimp only); first | omega | (refine ⟨?_, ?_⟩ <;> omega) | (refine ⟨?_, ?_, ?_⟩ <;> omega) | (simp; done) | (simp; omega))) (sc rfl (sc rfl (sc rfl (sc rfl (sc rfl (sc rfl sn)))))) [0, 1, 2, 3] ⟨by decide, rfl⟩ ?_
 rintro i hp
 have hp : i ≤ 8 := hp
 have hsi := hsa i
 refine T_re [(1, (b32 ctr)), (3, (.pointer (some ⟨g1, 0, none⟩))), (5, (.pointer (some ⟨g2, 0, none⟩))), (6, (.pointer (some ⟨g3, 0, none⟩))), (7, (.pointer (some ⟨g4, 0, none⟩))), (8, (.int .i64 ((i : Nat) : Int)))] (sc rfl (sc rfl (sc rfl (sc rfl (sc rfl (sc rfl sn)))))) ?_
 refine T_he [0, 1, 2, 3] [.blk g4 90 ((cstA key i).map b32), .blk g3 84 ((List.replicate 64 0#8).map b8), .blk g2 38 (nonce.map b8), .blk g1 22 (key.map b8)] ⟨by decide, rfl⟩ ?_
 refine T_seq ?_
 refine Tsr hF rfl ?_
 refine lm rfl rfl rfl rfl rfl ?_
 refine lo rfl (pr_cmp (bo := .lss) (nc_lt (a := i) (b := 8)) rfl rfl rfl rfl) rfl rfl ?_
 refine L_nil ?_
 refine T_cond (decide (i < 8)) rfl (fun hc_5 => ?_) (fun hc_5 => ?_)
 ·
  have hc_5 := of_decide_eq_true hc_5
  refine T_skip ?_
  refine T_seq ?_
  refine T_block ?_
  refine T_reg hF rfl ?_
  refine lm rfl rfl rfl rfl rfl ?_
  refine lo rfl (pr_add (na_i64 (a := 4) (b := i) sd) rfl rfl rfl) rfl rfl ?_
  refine lm rfl rfl rfl rfl rfl ?_
  refine lo rfl (pr_mul (nm_i64 (a := 4) (b := i) sd) rfl rfl rfl) rfl rfl ?_
  refine lm rfl rfl rfl rfl rfl ?_
  refine lo rfl (pr_mul (nm_i64 (a := 4) (b := i) sd) rfl rfl rfl) rfl rfl ?_
  refine lo rfl (pr_add (na_i64 (a := 4 * i) (b := 4) sd) rfl rfl rfl) rfl rfl ?_
  refine lo rfl (pr_sla (l := 4 * i) (u := 4 * i + 4) (m := 4 * i) sd sd sd (by omega) Try.underlying22 (z := 1) kr rfl rfl ⟨_, rfl⟩ ⟨_, rfl⟩) rfl rfl ?_
  refine T_slot 26 _ (.slice (some ⟨g1, 4 * i, none⟩) 4 (32 - (4 * i))) rfl (by congr 1; omega) ?_
  refine L_op rfl (op_cn (fun w hw => rword_f (List.take 4 (List.drop (4 * i) key)) (some ⟨g1, 4 * i, none⟩) (32 - (4 * i)) w (hok_cons ((src_sub 3 rfl sd sd sd) w hw) (hok_nil w)) sd) (enters_of Try.func66 kr rfl) rfl rfl rfl rfl rfl (fun t6 q7 => ?_))
  refine lo rfl (pr_ixa (j := 4 + i) (m' := 4 + i) sd (by omega) Try.underlying90 (z := 1) kr rfl rfl rfl) rfl rfl ?_
  refine L_op rfl (op_store (vs := [(b32 ((low (List.take 4 (List.drop (4 * i) key)) 4).setWidth 32))]) (cs' := ((List.set (cstA key i) (4 + i) ((low (List.take 4 (List.drop (4 * i) key)) 4).setWidth 32)).map b32)) 0 rfl rfl kr (one_one rfl) (stl sd) (splice_map (f := b32) sd) rfl rfl rfl rfl ?_)
  refine L_nil ?_
  refine T_reg hF rfl ?_
  refine lm rfl rfl rfl rfl rfl ?_
  refine lo rfl (pr_add (na_i64 (a := i) (b := 1) sd) rfl rfl rfl) rfl rfl ?_
  refine la rfl rfl rfl rfl rfl ?_
  refine L_nil ?_
  refine T_as 0 _ (.blk g4 90 ((cstA key (i + 1)).map b32)) rfl (by rw [cstA_succ, low_tk _ _ 4 (by omega), le32_def]) ?_
  exact T_again (i + 1) (by first | trivial | ((try dsimp only); first | omega | (refine ⟨?_, ?_⟩ <;> omega) | (refine ⟨?_, ?_, ?_⟩ <;> omega) | (simp; done) | (simp; omega))) (by first | trivial | ((try dsimp only); first | omega | (refine ⟨?_, ?_⟩ <;> omega) | (refine ⟨?_, ?_, ?_⟩ <;> omega) | (simp; done) | (simp; omega))) (sc rfl (sc rfl (sc rfl (sc rfl (sc rfl (sc rfl sn)))))) [0, 1, 2, 3] ⟨by decide, rfl⟩
 ·
  have hc_5 := of_decide_eq_false hc_5
  refine T_exit rfl ?_
  obtain rfl : 8 = i := by omega
  refine Tsr hF rfl ?_
  refine lm rfl rfl rfl rfl rfl ?_
  refine lo rfl (pr_ixa (j := 12) (m' := 12) sd (by omega) Try.underlying90 (z := 1) kr rfl rfl rfl) rfl rfl ?_
  refine L_op rfl (op_store (vs := [(b32 ctr)]) (cs' := ((List.set (cstA key 8) 12 ctr).map b32)) 0 rfl rfl kr (one_one rfl) (stl sd) (splice_map (f := b32) sd) rfl rfl rfl rfl ?_)
  refine L_nil ?_
  refine T_seq ?_
  refine Tsr hF rfl ?_
  refine la rfl rfl rfl rfl rfl ?_
  refine L_nil ?_
  refine T_block ?_
  refine T_as 0 _ (.blk g4 90 ((cstB key ctr nonce 0).map b32)) rfl (by rw [cstB_zero]) ?_
  refine T_loop (T := Nat) (fun i => i ≤ 3) (fun i => [(5, (.pointer (some ⟨g2, 0, none⟩))), (6, (.pointer (some ⟨g3, 0, none⟩))), (7, (.pointer (some ⟨g4, 0, none⟩))), (9, (.int .i64 ((i : Nat) : Int)))]) (fun i => [.blk g4 90 ((cstB key ctr nonce i).map b32), .blk g3 84 ((List.replicate 64 0#8).map b8), .blk g2 38 (nonce.map b8), .blk g1 22 (key.map b8)]) (fun i => 3 - i) 0 (by first | trivial | ((try dsimp only); first | omega | (refine ⟨?_, ?_⟩ <;> omega) | (refine ⟨?_, ?_, ?_⟩ <;> omega) | (simp; done) | (simp; omega))) (sc rfl (sc rfl (sc rfl (sc rfl sn)))) [0, 1, 2, 3] ⟨by decide, rfl⟩ ?_
  rintro i hp
  have hp : i ≤ 3 := hp
  have hsj := hsb i
  refine T_re [(5, (.pointer (some ⟨g2, 0, none⟩))), (6, (.pointer (some ⟨g3, 0, none⟩))), (7, (.pointer (some ⟨g4, 0, none⟩))), (9, (.int .i64 ((i : Nat) : Int)))] (sc rfl (sc rfl (sc rfl (sc rfl sn)))) ?_
  refine T_he [0, 1, 2, 3] [.blk g4 90 ((cstB key ctr nonce i).map b32), .blk g3 84 ((List.replicate 64 0#8).map b8), .blk g2 38 (nonce.map b8), .blk g1 22 (key.map b8)] ⟨by decide, rfl⟩ ?_
  refine T_seq ?_
  refine Tsr hF rfl ?_
  refine lm rfl rfl rfl rfl rfl ?_
  refine lo rfl (pr_cmp (bo := .lss) (nc_lt (a := i) (b := 3)) rfl rfl rfl rfl) rfl rfl ?_
  refine L_nil ?_
  refine T_cond (decide (i < 3)) rfl (fun hc_8 => ?_) (fun hc_8 => ?_)
  ·
   have hc_8 := of_decide_eq_true hc_8
   refine T_skip ?_
   refine T_seq ?_
   refine T_block ?_
   refine T_reg hF rfl ?_
   refine lm rfl rfl rfl rfl rfl ?_
   refine lo rfl (pr_add (na_i64 (a := 13) (b := i) sd) rfl rfl rfl) rfl rfl ?_
   refine lm rfl rfl rfl rfl rfl ?_
   refine lo rfl (pr_mul (nm_i64 (a := 4) (b := i) sd) rfl rfl rfl) rfl rfl ?_
   refine lm rfl rfl rfl rfl rfl ?_
   refine lo rfl (pr_mul (nm_i64 (a := 4) (b := i) sd) rfl rfl rfl) rfl rfl ?_
   refine lo rfl (pr_add (na_i64 (a := 4 * i) (b := 4) sd) rfl rfl rfl) rfl rfl ?_
   refine lo rfl (pr_sla (l := 4 * i) (u := 4 * i + 4) (m := 4 * i) sd sd sd (by omega) Try.underlying38 (z := 1) kr rfl rfl ⟨_, rfl⟩ ⟨_, rfl⟩) rfl rfl ?_
   refine T_slot 42 _ (.slice (some ⟨g2, 4 * i, none⟩) 4 (12 - (4 * i))) rfl (by congr 1; omega) ?_
   refine L_op rfl (op_cn (fun w hw => rword_f (List.take 4 (List.drop (4 * i) nonce)) (some ⟨g2, 4 * i, none⟩) (12 - (4 * i)) w (hok_cons ((src_sub 2 rfl sd sd sd) w hw) (hok_nil w)) sd) (enters_of Try.func66 kr rfl) rfl rfl rfl rfl rfl (fun t9 q10 => ?_))
   refine lo rfl (pr_ixa (j := 13 + i) (m' := 13 + i) sd (by omega) Try.underlying90 (z := 1) kr rfl rfl rfl) rfl rfl ?_
   refine L_op rfl (op_store (vs := [(b32 ((low (List.take 4 (List.drop (4 * i) nonce)) 4).setWidth 32))]) (cs' := ((List.set (cstB key ctr nonce i) (13 + i) ((low (List.take 4 (List.drop (4 * i) nonce)) 4).setWidth 32)).map b32)) 0 rfl rfl kr (one_one rfl) (stl sd) (splice_map (f := b32) sd) rfl rfl rfl rfl ?_)
   refine L_nil ?_
   refine T_reg hF rfl ?_
   refine lm rfl rfl rfl rfl rfl ?_
   refine lo rfl (pr_add (na_i64 (a := i) (b := 1) sd) rfl rfl rfl) rfl rfl ?_
   refine la rfl rfl rfl rfl rfl ?_
   refine L_nil ?_
   refine T_as 0 _ (.blk g4 90 ((cstB key ctr nonce (i + 1)).map b32)) rfl (by rw [cstB_succ, low_tk _ _ 4 (by omega), le32_def]) ?_
   exact T_again (i + 1) (by first | trivial | ((try dsimp only); first | omega | (refine ⟨?_, ?_⟩ <;> omega) | (refine ⟨?_, ?_, ?_⟩ <;> omega) | (simp; done) | (simp; omega))) (by first | trivial | ((try dsimp only); first | omega | (refine ⟨?_, ?_⟩ <;> omega) | (refine ⟨?_, ?_, ?_⟩ <;> omega) | (simp; done) | (simp; omega))) (sc rfl (sc rfl (sc rfl (sc rfl sn)))) [0, 1, 2, 3] ⟨by decide, rfl⟩
  ·
   have hc_8 := of_decide_eq_false hc_8
   refine T_exit rfl ?_
   obtain rfl : 3 = i := by omega
   refine Tsr hF rfl ?_
   refine lq rfl (ld_agg (ds := ((cstB key ctr nonce 3).map b32)) 0 rfl agg_all Try.underlying90 rfl (fwz (n := 16) kr sd) rfl rfl) rfl rfl ?_
   refine L_op rfl (op_alloc (z := .agg ((List.replicate 16 0#32).map b32).toArray) (zs := ((List.replicate 16 0#32).map b32)) kr rfl rfl rfl rfl (fun g11 => ?_))
   refine L_op rfl (op_sto (n := 16) (vs := ((cstB key ctr nonce 3).map b32)) 0 rfl rfl kr (all32_one _) kr sd rfl rfl rfl rfl ?_)
   refine L_nil ?_
   refine T_seq ?_
   refine Tsr hF rfl ?_
   refine la rfl rfl rfl rfl rfl ?_
   refine L_nil ?_
   refine T_block ?_
   refine T_as 0 _ (.blk g11 90 ((crounds (cstB key ctr nonce 3) 0).map b32)) rfl (by rw [crounds_zero]) ?_
   refine T_loop (T := Nat) (fun k => k ≤ 10) (fun k => [(6, (.pointer (some ⟨g3, 0, none⟩))), (7, (.pointer (some ⟨g4, 0, none⟩))), (10, (.pointer (some ⟨g11, 0, none⟩))), (11, (.int .i64 ((k : Nat) : Int)))]) (fun k => [.blk g11 90 ((crounds (cstB key ctr nonce 3) k).map b32), .blk g4 90 ((cstB key ctr nonce 3).map b32), .blk g3 84 ((List.replicate 64 0#8).map b8), .blk g2 38 (nonce.map b8), .blk g1 22 (key.map b8)]) (fun k => 10 - k) 0 (by first | trivial | ((try dsimp only); first | omega | (refine ⟨?_, ?_⟩ <;> omega) | (refine ⟨?_, ?_, ?_⟩ <;> omega) | (simp; done) | (simp; omega))) (sc rfl (sc rfl (sc rfl (sc rfl sn)))) [0, 1, 2, 3, 4] ⟨by decide, rfl⟩ ?_
   rintro k hp
   have hp : k ≤ 10 := hp
   have hck := hcr k
   refine T_re [(6, (.pointer (some ⟨g3, 0, none⟩))), (7, (.pointer (some ⟨g4, 0, none⟩))), (10, (.pointer (some ⟨g11, 0, none⟩))), (11, (.int .i64 ((k : Nat) : Int)))] (sc rfl (sc rfl (sc rfl (sc rfl sn)))) ?_
   refine T_he [0, 1, 2, 3, 4] [.blk g11 90 ((crounds (cstB key ctr nonce 3) k).map b32), .blk g4 90 ((cstB key ctr nonce 3).map b32), .blk g3 84 ((List.replicate 64 0#8).map b8), .blk g2 38 (nonce.map b8), .blk g1 22 (key.map b8)] ⟨by decide, rfl⟩ ?_
   refine T_seq ?_
   refine Tsr hF rfl ?_
   refine lm rfl rfl rfl rfl rfl ?_
   refine lo rfl (pr_cmp (bo := .lss) (nc_lt (a := k) (b := 10)) rfl rfl rfl rfl) rfl rfl ?_
   refine L_nil ?_
   refine T_cond (decide (k < 10)) rfl (fun hc_12 => ?_) (fun hc_12 => ?_)
   ·
    have hc_12 := of_decide_eq_true hc_12
    refine T_skip ?_
    refine T_seq ?_
    refine T_block ?_
    refine Tsr hF rfl ?_
    refine lq rfl (ld_agg (ds := ((crounds (cstB key ctr nonce 3) k).map b32)) 0 rfl agg_all Try.underlying90 rfl (fwz (n := 16) kr sd) rfl rfl) rfl rfl ?_
    refine L_op rfl (op_cn (fun w hw => rround_f (crounds (cstB key ctr nonce 3) k) 0 4 8 12 w (hok_nil w) (by first | assumption | (repeat (first | assumption | apply cq16))) sd sd sd sd) (enters_of Try.func67 kr rfl) rfl rfl rfl rfl rfl (fun t13 q14 => ?_))
    obtain ⟨w1, hw1⟩ : ∃ x, (qr4 (crounds (cstB key ctr nonce 3) k) 0 4 8 12) = x := ⟨_, rfl⟩
    have hwl1 : w1.length = 16 := by rw [← hw1, qr4_len]; assumption
    refine T_slot 51 _ (.agg (w1.map b32).toArray) rfl (by rw [hw1]) ?_
    refine L_op rfl (op_sto (n := 16) (vs := (w1.map b32)) 0 rfl rfl kr (all32_one _) sd sd rfl rfl rfl rfl ?_)
    refine L_nil ?_
    refine Tsr hF rfl ?_
    refine lq rfl (ld_agg (ds := (w1.map b32)) 0 rfl agg_all Try.underlying90 rfl (fwz (n := 16) kr sd) rfl rfl) rfl rfl ?_
    refine L_op rfl (op_cn (fun w hw => rround_f w1 1 5 9 13 w (hok_nil w) (by first | assumption | (repeat (first | assumption | apply cq16))) sd sd sd sd) (enters_of Try.func67 kr rfl) rfl rfl rfl rfl rfl (fun t15 q16 => ?_))
    obtain ⟨w2, hw2⟩ : ∃ x, (qr4 w1 1 5 9 13) = x := ⟨_, rfl⟩
    have hwl2 : w2.length = 16 := by rw [← hw2, qr4_len]; assumption
    refine T_slot 53 (.agg ((qr4 w1 1 5 9 13).map b32).toArray) (.agg (w2.map b32).toArray) rfl (by rw [hw2]) ?_
    refine L_op rfl (op_sto (n := 16) (vs := (w2.map b32)) 0 rfl rfl kr (all32_one _) sd sd rfl rfl rfl rfl ?_)
    refine L_nil ?_
    refine Tsr hF rfl ?_
    refine lq rfl (ld_agg (ds := (w2.map b32)) 0 rfl agg_all Try.underlying90 rfl (fwz (n := 16) kr sd) rfl rfl) rfl rfl ?_
    refine L_op rfl (op_cn (fun w hw => rround_f w2 2 6 10 14 w (hok_nil w) (by first | assumption | (repeat (first | assumption | apply cq16))) sd sd sd sd) (enters_of Try.func67 kr rfl) rfl rfl rfl rfl rfl (fun t17 q18 => ?_))
    obtain ⟨w3, hw3⟩ : ∃ x, (qr4 w2 2 6 10 14) = x := ⟨_, rfl⟩
    have hwl3 : w3.length = 16 := by rw [← hw3, qr4_len]; assumption
    refine T_slot 55 (.agg ((qr4 w2 2 6 10 14).map b32).toArray) (.agg (w3.map b32).toArray) rfl (by rw [hw3]) ?_
    refine L_op rfl (op_sto (n := 16) (vs := (w3.map b32)) 0 rfl rfl kr (all32_one _) sd sd rfl rfl rfl rfl ?_)
    refine L_nil ?_
    refine Tsr hF rfl ?_
    refine lq rfl (ld_agg (ds := (w3.map b32)) 0 rfl agg_all Try.underlying90 rfl (fwz (n := 16) kr sd) rfl rfl) rfl rfl ?_
    refine L_op rfl (op_cn (fun w hw => rround_f w3 3 7 11 15 w (hok_nil w) (by first | assumption | (repeat (first | assumption | apply cq16))) sd sd sd sd) (enters_of Try.func67 kr rfl) rfl rfl rfl rfl rfl (fun t19 q20 => ?_))
    obtain ⟨w4, hw4⟩ : ∃ x, (qr4 w3 3 7 11 15) = x := ⟨_, rfl⟩
    have hwl4 : w4.length = 16 := by rw [← hw4, qr4_len]; assumption
    refine T_slot 57 (.agg ((qr4 w3 3 7 11 15).map b32).toArray) (.agg (w4.map b32).toArray) rfl (by rw [hw4]) ?_
    refine L_op rfl (op_sto (n := 16) (vs := (w4.map b32)) 0 rfl rfl kr (all32_one _) sd sd rfl rfl rfl rfl ?_)
    refine L_nil ?_
    refine Tsr hF rfl ?_
    refine lq rfl (ld_agg (ds := (w4.map b32)) 0 rfl agg_all Try.underlying90 rfl (fwz (n := 16) kr sd) rfl rfl) rfl rfl ?_
    refine L_op rfl (op_cn (fun w hw => rround_f w4 0 5 10 15 w (hok_nil w) (by first | assumption | (repeat (first | assumption | apply cq16))) sd sd sd sd) (enters_of Try.func67 kr rfl) rfl rfl rfl rfl rfl (fun t21 q22 => ?_))
    obtain ⟨w5, hw5⟩ : ∃ x, (qr4 w4 0 5 10 15) = x := ⟨_, rfl⟩
    have hwl5 : w5.length = 16 := by rw [← hw5, qr4_len]; assumption
    refine T_slot 59 (.agg ((qr4 w4 0 5 10 15).map b32).toArray) (.agg (w5.map b32).toArray) rfl (by rw [hw5]) ?_
    refine L_op rfl (op_sto (n := 16) (vs := (w5.map b32)) 0 rfl rfl kr (all32_one _) sd sd rfl rfl rfl rfl ?_)
    refine L_nil ?_
    refine Tsr hF rfl ?_
    refine lq rfl (ld_agg (ds := (w5.map b32)) 0 rfl agg_all Try.underlying90 rfl (fwz (n := 16) kr sd) rfl rfl) rfl rfl ?_
    refine L_op rfl (op_cn (fun w hw => rround_f w5 1 6 11 12 w (hok_nil w) (by first | assumption | (repeat (first | assumption | apply cq16))) sd sd sd sd) (enters_of Try.func67 kr rfl) rfl rfl rfl rfl rfl (fun t23 q24 => ?_))
    obtain ⟨w6, hw6⟩ : ∃ x, (qr4 w5 1 6 11 12) = x := ⟨_, rfl⟩
    have hwl6 : w6.length = 16 := by rw [← hw6, qr4_len]; assumption
    refine T_slot 61 (.agg ((qr4 w5 1 6 11 12).map b32).toArray) (.agg (w6.map b32).toArray) rfl (by rw [hw6]) ?_
    refine L_op rfl (op_sto (n := 16) (vs := (w6.map b32)) 0 rfl rfl kr (all32_one _) sd sd rfl rfl rfl rfl ?_)
    refine L_nil ?_
    refine Tsr hF rfl ?_
    refine lq rfl (ld_agg (ds := (w6.map b32)) 0 rfl agg_all Try.underlying90 rfl (fwz (n := 16) kr sd) rfl rfl) rfl rfl ?_
    refine L_op rfl (op_cn (fun w hw => rround_f w6 2 7 8 13 w (hok_nil w) (by first | assumption | (repeat (first | assumption | apply cq16))) sd sd sd sd) (enters_of Try.func67 kr rfl) rfl rfl rfl rfl rfl (fun t25 q26 => ?_))
    obtain ⟨w7, hw7⟩ : ∃ x, (qr4 w6 2 7 8 13) = x := ⟨_, rfl⟩
    have hwl7 : w7.length = 16 := by rw [← hw7, qr4_len]; assumption
    refine T_slot 63 (.agg ((qr4 w6 2 7 8 13).map b32).toArray) (.agg (w7.map b32).toArray) rfl (by rw [hw7]) ?_
    refine L_op rfl (op_sto (n := 16) (vs := (w7.map b32)) 0 rfl rfl kr (all32_one _) sd sd rfl rfl rfl rfl ?_)
    refine L_nil ?_
    refine T_reg hF rfl ?_
    refine lq rfl (ld_agg (ds := (w7.map b32)) 0 rfl agg_all Try.underlying90 rfl (fwz (n := 16) kr sd) rfl rfl) rfl rfl ?_
    refine L_op rfl (op_cn (fun w hw => rround_f w7 3 4 9 14 w (hok_nil w) (by first | assumption | (repeat (first | assumption | apply cq16))) sd sd sd sd) (enters_of Try.func67 kr rfl) rfl rfl rfl rfl rfl (fun t27 q28 => ?_))
    obtain ⟨w8, hw8⟩ : ∃ x, (qr4 w7 3 4 9 14) = x := ⟨_, rfl⟩
    have hwl8 : w8.length = 16 := by rw [← hw8, qr4_len]; assumption
    refine T_slot 65 (.agg ((qr4 w7 3 4 9 14).map b32).toArray) (.agg (w8.map b32).toArray) rfl (by rw [hw8]) ?_
    refine L_op rfl (op_sto (n := 16) (vs := (w8.map b32)) 0 rfl rfl kr (all32_one _) sd sd rfl rfl rfl rfl ?_)
    refine L_nil ?_
    refine T_reg hF rfl ?_
    refine lm rfl rfl rfl rfl rfl ?_
    refine lo rfl (pr_add (na_i64 (a := k) (b := 1) sd) rfl rfl rfl) rfl rfl ?_
    refine la rfl rfl rfl rfl rfl ?_
    refine L_nil ?_
    refine T_as 0 _ (.blk g11 90 ((crounds (cstB key ctr nonce 3) (k + 1)).map b32)) rfl (by rw [crounds_hand, hw1, hw2, hw3, hw4, hw5, hw6, hw7, hw8]) ?_
    exact T_again (k + 1) (by first | trivial | ((try dsimp only); first | omega | (refine ⟨?_, ?_⟩ <;> omega) | (refine ⟨?_, ?_, ?_⟩ <;> omega) | (simp; done) | (simp; omega))) (by first | trivial | ((try dsimp only); first | omega | (refine ⟨?_, ?_⟩ <;> omega) | (refine ⟨?_, ?_, ?_⟩ <;> omega) | (simp; done) | (simp; omega))) (sc rfl (sc rfl (sc rfl (sc rfl sn)))) [0, 1, 2, 3, 4] ⟨by decide, rfl⟩
   ·
    have hc_12 := of_decide_eq_false hc_12
    refine T_exit rfl ?_
    obtain rfl : 10 = k := by omega
    refine Tsr hF rfl ?_
    refine L_op rfl (op_alloc (z := .agg ((List.replicate 64 0#8).map b8).toArray) (zs := ((List.replicate 64 0#8).map b8)) kr rfl rfl rfl rfl (fun g29 => ?_))
    refine L_nil ?_
    refine T_seq ?_
    refine Tsr hF rfl ?_
    refine la rfl rfl rfl rfl rfl ?_
    refine L_nil ?_
    refine T_block ?_
    refine T_as 0 _ (.blk g29 84 ((putb (crounds (cstB key ctr nonce 3) 10) (cstB key ctr nonce 3) 0).map b8)) rfl (by rw [putb_zero]) ?_
    refine T_loop (T := Nat) (fun i => i ≤ 64) (fun i => [(6, (.pointer (some ⟨g3, 0, none⟩))), (7, (.pointer (some ⟨g4, 0, none⟩))), (10, (.pointer (some ⟨g11, 0, none⟩))), (12, (.pointer (some ⟨g29, 0, none⟩))), (13, (.int .i64 ((i : Nat) : Int)))]) (fun i => [.blk g29 84 ((putb (crounds (cstB key ctr nonce 3) 10) (cstB key ctr nonce 3) i).map b8), .blk g11 90 ((crounds (cstB key ctr nonce 3) 10).map b32), .blk g4 90 ((cstB key ctr nonce 3).map b32), .blk g3 84 ((List.replicate 64 0#8).map b8), .blk g2 38 (nonce.map b8), .blk g1 22 (key.map b8)]) (fun i => 64 - i) 0 (by first | trivial | ((try dsimp only); first | omega | (refine ⟨?_, ?_⟩ <;> omega) | (refine ⟨?_, ?_, ?_⟩ <;> omega) | (simp; done) | (simp; omega))) (sc rfl (sc rfl (sc rfl (sc rfl (sc rfl sn))))) [0, 1, 2, 3, 4, 5] ⟨by decide, rfl⟩ ?_
    rintro i hp
    have hp : i ≤ 64 := hp
    have hpi := hpb i
    have hc10 := hcr 10
    refine T_re [(6, (.pointer (some ⟨g3, 0, none⟩))), (7, (.pointer (some ⟨g4, 0, none⟩))), (10, (.pointer (some ⟨g11, 0, none⟩))), (12, (.pointer (some ⟨g29, 0, none⟩))), (13, (.int .i64 ((i : Nat) : Int)))] (sc rfl (sc rfl (sc rfl (sc rfl (sc rfl sn))))) ?_
    refine T_he [0, 1, 2, 3, 4, 5] [.blk g29 84 ((putb (crounds (cstB key ctr nonce 3) 10) (cstB key ctr nonce 3) i).map b8), .blk g11 90 ((crounds (cstB key ctr nonce 3) 10).map b32), .blk g4 90 ((cstB key ctr nonce 3).map b32), .blk g3 84 ((List.replicate 64 0#8).map b8), .blk g2 38 (nonce.map b8), .blk g1 22 (key.map b8)] ⟨by decide, rfl⟩ ?_
    refine T_seq ?_
    refine Tsr hF rfl ?_
    refine lm rfl rfl rfl rfl rfl ?_
    refine lo rfl (pr_cmp (bo := .lss) (nc_lt (a := i) (b := 64)) rfl rfl rfl rfl) rfl rfl ?_
    refine L_nil ?_
    refine T_cond (decide (i < 64)) rfl (fun hc_30 => ?_) (fun hc_30 => ?_)
    ·
     have hc_30 := of_decide_eq_true hc_30
     refine T_skip ?_
     refine T_seq ?_
     refine T_block ?_
     refine T_regD [.blk g29 84 ((putb (crounds (cstB key ctr nonce 3) 10) (cstB key ctr nonce 3) i).map b8), .blk g11 90 ((crounds (cstB key ctr nonce 3) 10).map b32), .blk g4 90 ((cstB key ctr nonce 3).map b32), .blk g3 84 ((List.replicate 64 0#8).map b8), .blk g2 38 (nonce.map b8), .blk g1 22 (key.map b8)] 17 18 #[false, false, false, false, false, false, false, false, false, false, false, false, false, false, false, false, false, false] hF kr kr ?_
     refine D_pure (i := 0) [0, 1, 2, 3, 4, 5] rfl kr rfl (pr_move rfl rfl) (.inr rfl) rfl rfl ?_
     refine D_pure (i := 1) [0, 1, 2, 3, 4, 5] rfl kr rfl (pr_move rfl rfl) (.inr rfl) rfl rfl ?_
     refine D_pure (i := 2) [0, 1, 2, 3, 4, 5] rfl kr rfl (pr_quo (a := i) (b := 4) sd sd rfl rfl rfl) (.inr rfl) rfl rfl ?_
     refine D_pure (i := 3) [0, 1, 2, 3, 4, 5] rfl kr rfl (pr_ixa (j := i / 4) (m' := i / 4) sd (by omega) Try.underlying90 (z := 1) kr rfl rfl rfl) (.inr rfl) rfl rfl ?_
     refine D_pure (i := 5) [0, 1, 2, 3, 4, 5] rfl kr rfl (pr_move rfl rfl) (.inr rfl) rfl rfl ?_
     refine D_pure (i := 6) [0, 1, 2, 3, 4, 5] rfl kr rfl (pr_quo (a := i) (b := 4) sd sd rfl rfl rfl) (.inr rfl) rfl rfl ?_
     refine D_pure (i := 7) [0, 1, 2, 3, 4, 5] rfl kr rfl (pr_ixa (j := i / 4) (m' := i / 4) sd (by omega) Try.underlying90 (z := 1) kr rfl rfl rfl) (.inr rfl) rfl rfl ?_
     refine D_pure (i := 10) [0, 1, 2, 3, 4, 5] rfl kr rfl (pr_move rfl rfl) (.inr rfl) rfl rfl ?_
     refine D_pure (i := 11) [0, 1, 2, 3, 4, 5] rfl kr rfl (pr_rem (a := i) (b := 4) sd rfl rfl rfl) (.inr rfl) rfl rfl ?_
     refine D_pure (i := 12) [0, 1, 2, 3, 4, 5] rfl kr rfl (pr_mul (nm_i64 (a := 8) (b := i % 4) sd) rfl rfl rfl) (.inr rfl) rfl rfl ?_
     refine D_pure (i := 13) [0, 1, 2, 3, 4, 5] rfl kr rfl (pr_cv (ni_u64 (a := 8 * (i % 4)) sd) Try.underlying3 Try.underlying33 rfl rfl) (.inr rfl) rfl rfl ?_
     refine D_take (i := 4) [0, 1, 2, 3, 4, 5] rfl kr rfl (ld_blk 1 rfl (get32 sd) Try.underlying63 rfl rfl rfl) rfl rfl rfl ?_
     refine D_take (i := 8) [0, 1, 2, 3, 4, 5] rfl kr rfl (ld_blk 2 rfl (get32 sd) Try.underlying63 rfl rfl rfl) rfl rfl rfl ?_
     refine D_pure (i := 9) [0, 1, 2, 3, 4, 5] rfl kr rfl (pr_add (add32 _ _) rfl rfl rfl) (.inr rfl) rfl rfl ?_
     refine D_pure (i := 14) [0, 1, 2, 3, 4, 5] rfl kr rfl (pr_shift (sh_shr32 ((ath (crounds (cstB key ctr nonce 3) 10) (i / 4)) + (ath (cstB key ctr nonce 3) (i / 4))) _ (8 * (i % 4))) rfl rfl rfl rfl) (.inr rfl) rfl rfl ?_
     refine D_pure (i := 15) [0, 1, 2, 3, 4, 5] rfl kr rfl (pr_cv (cv32_8 _) Try.underlying63 Try.underlying5 rfl rfl) (.inr rfl) rfl rfl ?_
     refine D_pure (i := 16) [0, 1, 2, 3, 4, 5] rfl kr rfl (pr_ixa (j := i) (m' := i) sd (by omega) Try.underlying84 (z := 1) kr rfl rfl rfl) (.inr rfl) rfl rfl ?_
     refine D_one 17 _ rfl kr rfl (op_store (vs := [(b8 ((((ath (crounds (cstB key ctr nonce 3) 10) (i / 4)) + (ath (cstB key ctr nonce 3) (i / 4))) >>> (8 * (i % 4))).setWidth 8))]) (cs' := ((List.set (putb (crounds (cstB key ctr nonce 3) 10) (cstB key ctr nonce 3) i) i ((((ath (crounds (cstB key ctr nonce 3) 10) (i / 4)) + (ath (cstB key ctr nonce 3) (i / 4))) >>> (8 * (i % 4))).setWidth 8)).map b8)) 0 rfl rfl kr (one_one rfl) (stl sd) (splice_map (f := b8) sd) rfl rfl rfl rfl ?_)
     refine D_past kr ?_
     refine D_done kr ?_
     refine T_reg hF rfl ?_
     refine lm rfl rfl rfl rfl rfl ?_
     refine lo rfl (pr_add (na_i64 (a := i) (b := 1) sd) rfl rfl rfl) rfl rfl ?_
     refine la rfl rfl rfl rfl rfl ?_
     refine L_nil ?_
     refine T_as 0 _ (.blk g29 84 ((putb (crounds (cstB key ctr nonce 3) 10) (cstB key ctr nonce 3) (i + 1)).map b8)) rfl (by rw [putb_succ]) ?_
     exact T_again (i + 1) (by first | trivial | ((try dsimp only); first | omega | (refine ⟨?_, ?_⟩ <;> omega) | (refine ⟨?_, ?_, ?_⟩ <;> omega) | (simp; done) | (simp; omega))) (by first | trivial | ((try dsimp only); first | omega | (refine ⟨?_, ?_⟩ <;> omega) | (refine ⟨?_, ?_, ?_⟩ <;> omega) | (simp; done) | (simp; omega))) (sc rfl (sc rfl (sc rfl (sc rfl (sc rfl sn))))) [0, 1, 2, 3, 4, 5] ⟨by decide, rfl⟩
    ·
     have hc_30 := of_decide_eq_false hc_30
     refine T_exit rfl ?_
     obtain rfl : 64 = i := by omega
     refine Tsr hF rfl ?_
     refine lq rfl (ld_agg (ds := ((putb (crounds (cstB key ctr nonce 3) 10) (cstB key ctr nonce 3) 64).map b8)) 0 rfl agg_all Try.underlying84 rfl (fwz (n := 64) kr sd) rfl rfl) rfl rfl ?_
     refine L_op rfl (op_sto (n := 64) (vs := ((putb (crounds (cstB key ctr nonce 3) 10) (cstB key ctr nonce 3) 64).map b8)) 3 rfl rfl kr (all8_one _) kr sd rfl rfl rfl rfl ?_)
     refine L_nil ?_
     refine T_ret ?_
     refine T_as 0 _ (.blk g3 84 ((cblock key ctr nonce).map b8)) rfl (by rw [putb_outb, cblock_def]) ?_
     exact T_fin () (by first | trivial | omega | (simp; done)) (resb 0 rfl rfl rfl Try.underlying84 rfl (fwz (n := 64) kr sd)) [] ⟨by decide, rfl⟩ rfl
set_option maxHeartbeats 4000000 in
theorem blocks_seq (key : List (BitVec 8)) (ctr : BitVec 32) (nonce : List (BitVec 8)) (g1 : Nat) (g2 : Nat) (g3 : Nat) (N : Nat) (hk : key.length = 32) (hn : nonce.length = 12) : SeqX true (Θ := Unit) Try.prog 62 [(.pointer (some ⟨g1, 0, none⟩)), (.pointer (some ⟨g2, 0, none⟩)), (.pointer (some ⟨g3, 0, none⟩))] [.rd (some ⟨g1, 0, none⟩) 1 1 1 [(b32 ctr)], .rd (some ⟨g2, 0, none⟩) 1 32 32 (key.map b8), .rd (some ⟨g3, 0, none⟩) 1 12 12 (nonce.map b8)] N (fun k _ => [(.agg ((cblock key (ctr + (BitVec.ofNat 32 k)) nonce).map b8).toArray)]) (fun k _ => []) := by
 have hF : Wid Fence.wide := wid_wide
 refine enter_seq (c := _) Try.func62 rfl (by rw [Try.ntmps62]; rfl) rfl ?_
 intro l J Jx W O R hsJ hsX hy hend
 rw [Try.ntmps62]
 refine T_re [(0, (.func (.yield l) #[] #[])), (1, (.pointer (some ⟨g1, 0, none⟩))), (2, (.pointer (some ⟨g2, 0, none⟩))), (3, (.pointer (some ⟨g3, 0, none⟩)))] (sc rfl (sc rfl (sc rfl (sc rfl sn)))) ?_
 refine T_he [0, 1, 2, 3] [.inv W.heap.size O R (J 0 O R), .rd (some ⟨g1, 0, none⟩) 1 1 1 [(b32 ctr)], .rd (some ⟨g2, 0, none⟩) 1 32 32 (key.map b8), .rd (some ⟨g3, 0, none⟩) 1 12 12 (nonce.map b8)] ⟨by decide, rfl⟩ ?_
 refine Tsr hF rfl ?_
 refine lq rfl (ld_rdb (src_rd 1 rfl) rfl Try.underlying63 rfl rfl rfl) rfl rfl ?_
 refine la rfl rfl rfl rfl rfl ?_
 refine L_nil ?_
 refine T_block ?_
 refine T_slot 5 (b32 ctr) (b32 (ctr + (BitVec.ofNat 32 0))) rfl (by rw [ctr_zero]) ?_
 refine T_loop (T := Nat × List Nat × List Nat) (fun ⟨k, O, R⟩ => k ≤ N) (fun ⟨k, O, R⟩ => [(0, (.func (.yield l) #[] #[])), (2, (.pointer (some ⟨g2, 0, none⟩))), (3, (.pointer (some ⟨g3, 0, none⟩))), (5, (b32 (ctr + (BitVec.ofNat 32 k))))]) (fun ⟨k, O, R⟩ => [.inv W.heap.size O R (J k O R), .rd (some ⟨g1, 0, none⟩) 1 1 1 [(b32 ctr)], .rd (some ⟨g2, 0, none⟩) 1 32 32 (key.map b8), .rd (some ⟨g3, 0, none⟩) 1 12 12 (nonce.map b8)]) (fun ⟨k, O, R⟩ => N - k) (0, O, R) (by first | trivial | ((try dsimp only); first | omega | (refine ⟨?_, ?_⟩ <;> omega) | (refine ⟨?_, ?_, ?_⟩ <;> omega) | (simp; done) | (simp; omega))) (sc rfl (sc rfl (sc rfl (sc rfl sn)))) [0, 1, 2, 3] ⟨by decide, rfl⟩ ?_
 rintro ⟨k, O, R⟩ hp
 have hp : k ≤ N := hp
 refine T_re [(0, (.func (.yield l) #[] #[])), (2, (.pointer (some ⟨g2, 0, none⟩))), (3, (.pointer (some ⟨g3, 0, none⟩))), (5, (b32 (ctr + (BitVec.ofNat 32 k))))] (sc rfl (sc rfl (sc rfl (sc rfl sn)))) ?_
 refine T_he [0, 1, 2, 3] [.inv W.heap.size O R (J k O R), .rd (some ⟨g1, 0, none⟩) 1 1 1 [(b32 ctr)], .rd (some ⟨g2, 0, none⟩) 1 32 32 (key.map b8), .rd (some ⟨g3, 0, none⟩) 1 12 12 (nonce.map b8)] ⟨by decide, rfl⟩ ?_
 refine T_seq ?_
 refine T_seq ?_
 refine T_regI ?_
 refine LI_opP hF rfl rfl (op_pr (pr_move rfl rfl) rfl rfl ?_)
 refine LI_opP hF rfl rfl (op_ld (ld_aggs (ds := (key.map b8)) (src_rd 2 rfl) (List.take_length) (by have h1 : ((key.map b8)).length = 32 := sd; omega) Try.underlying22 rfl (fwz (n := 32) kr sd) rfl rfl) rfl rfl ?_)
 refine LI_opP hF rfl rfl (op_pr (pr_move rfl rfl) rfl rfl ?_)
 refine LI_opP hF rfl rfl (op_ld (ld_aggs (ds := (nonce.map b8)) (src_rd 3 rfl) (List.take_length) (by have h1 : ((nonce.map b8)).length = 12 := sd; omega) Try.underlying38 rfl (fwz (n := 12) kr sd) rfl rfl) rfl rfl ?_)
 refine LI_opP hF rfl rfl (op_cn (fun w hw => cblock_f key (ctr + (BitVec.ofNat 32 k)) nonce w (hok_nil w) (by first | assumption | exact sd) (by first | assumption | exact sd)) (enters_of Try.func56 kr rfl) rfl rfl rfl rfl rfl (fun t1 q2 => ?_))
 refine T_know (p := k ≠ N) (fun w hw e => hend rfl _ _ _ (e ▸ (hw _ (List.mem_of_getElem? (i := 0) rfl)).1)) (fun hke_3 => ?_)
 refine LI_op rfl (op_yield (k := k) () hy sd hsJ hsX 0 rfl [] rfl rfl rfl rfl rfl rfl rfl rfl rfl (fun _ => trivial) (fun O4 R5 => ?_) (fun O6 R7 => ?_))
 ·
  refine LI_nil ?_
  refine T_cond_t rfl ?_
  refine T_skip ?_
  refine T_seq ?_
  refine T_block ?_
  refine T_skip ?_
  refine T_reg hF rfl ?_
  refine lm rfl rfl rfl rfl rfl ?_
  refine lo rfl (pr_add (add32 _ (1#32)) rfl rfl rfl) rfl rfl ?_
  refine la rfl rfl rfl rfl rfl ?_
  refine L_nil ?_
  refine T_slot 5 (b32 ((ctr + (BitVec.ofNat 32 k)) + 1#32)) (b32 (ctr + (BitVec.ofNat 32 (k + 1)))) rfl (by rw [ctr_next]) ?_
  exact T_again (k + 1, O4, R5) (by first | trivial | ((try dsimp only); first | omega | (refine ⟨?_, ?_⟩ <;> omega) | (refine ⟨?_, ?_, ?_⟩ <;> omega) | (simp; done) | (simp; omega))) (by first | trivial | ((try dsimp only); first | omega | (refine ⟨?_, ?_⟩ <;> omega) | (refine ⟨?_, ?_, ?_⟩ <;> omega) | (simp; done) | (simp; omega))) (sc rfl (sc rfl (sc rfl (sc rfl sn)))) [0, 1, 2, 3] ⟨by decide, rfl⟩
 ·
  refine LI_nil ?_
  refine T_cond_f rfl ?_
  refine T_exit rfl ?_
  exact T_finX rfl rfl 0 rfl
set_option maxHeartbeats 4000000 in
theorem blocks_f (key : List (BitVec 8)) (nonce : List (BitVec 8)) (ctr : BitVec 32) (w : World) (hO : HOK [] w) (hk : key.length = 32) (hn : nonce.length = 12) : Calls Try.prog 55 [(.agg (key.map b8).toArray), (.agg (nonce.map b8).toArray), (b32 ctr)].toArray w (Ret (T := Nat × Nat × Nat) [] w (fun ⟨g1, g2, g3⟩ => True) (fun ⟨g1, g2, g3⟩ => (.func (.func 62) #[] [(.pointer (some ⟨g1, 0, none⟩)), (.pointer (some ⟨g2, 0, none⟩)), (.pointer (some ⟨g3, 0, none⟩))].toArray)) (fun ⟨g1, g2, g3⟩ => [.old (some ⟨g1, 0, none⟩) 1 1 1 [(b32 ctr)], .old (some ⟨g2, 0, none⟩) 1 32 32 (key.map b8), .old (some ⟨g3, 0, none⟩) 1 12 12 (nonce.map b8)])) := by
 have hF : Wid Fence.wide := wid_wide
 refine enter (c := _) Try.func55 rfl [] [(.agg (key.map b8).toArray), (.agg (nonce.map b8).toArray), (b32 ctr)] [] (by rw [Try.ntmps55]; rfl) (own_rds hO rfl) ?_
 rw [Try.ntmps55]
 refine T_re [(0, (.agg (key.map b8).toArray)), (1, (.agg (nonce.map b8).toArray)), (2, (b32 ctr))] (sc rfl (sc rfl (sc rfl sn))) ?_
 refine T_he [] [] ⟨by decide, rfl⟩ ?_
 refine Tsr hF rfl ?_
 refine L_op rfl (op_box (zs := (key.map b8)) rfl rfl rfl rfl rfl (fun g1 => ?_))
 refine L_op rfl (op_box (zs := (nonce.map b8)) rfl rfl rfl rfl rfl (fun g2 => ?_))
 refine L_op rfl (op_box (zs := [(b32 ctr)]) rfl rfl rfl rfl rfl (fun g3 => ?_))
 refine la rfl rfl rfl rfl rfl ?_
 refine L_nil ?_
 refine Tsr hF rfl ?_
 refine lo rfl (pr_mkfn (us := []) (vs := [(.pointer (some ⟨g3, 0, none⟩)), (.pointer (some ⟨g1, 0, none⟩)), (.pointer (some ⟨g2, 0, none⟩))]) rfl rfl rfl) rfl rfl ?_
 refine la rfl rfl rfl rfl rfl ?_
 refine L_nil ?_
 refine T_ret ?_
 refine T_oldb 0 (zs := [(b32 ctr)]) 0 1 1 1 rfl rfl rfl sd sd ?_
 refine T_oldb 2 (zs := (key.map b8)) 0 1 32 32 rfl sd (by first | rfl | (rw [List.drop_zero, List.take_of_length_le (by simp; omega)]) | simp [List.map_take, List.map_drop]) sd sd ?_
 refine T_oldb 2 (zs := (nonce.map b8)) 0 1 12 12 rfl sd (by first | rfl | (rw [List.drop_zero, List.take_of_length_le (by simp; omega)]) | simp [List.map_take, List.map_drop]) sd sd ?_
 exact T_fin (g3, g1, g2) (by first | trivial | omega | (simp; done)) (res1 rfl rfl) [2, 1, 0] ⟨by decide, rfl⟩ rfl
theorem xor_blk (i : Nat) (h : i % 64 = 0) (h2 : ¬ (i + 1) % 64 = 0) : (i + 1) / 64 = i / 64 := by omega
theorem xor_blk2 (i : Nat) (h2 : ¬ (i + 1) % 64 = 0) : (i + 1) / 64 = i / 64 := by omega

set_option maxHeartbeats 4000000 in
theorem rxor_f (key : List (BitVec 8)) (nonce : List (BitVec 8)) (ctr : BitVec 32) (xs : List (BitVec 8)) (A : Option Addr) (n : Nat) (c : Nat) (w : World) (hO : HOK [.rd A 1 n c (xs.map b8)] w) (hk : key.length = 32) (hn : nonce.length = 12) (hx : xs.length = n) (hn9 : n ≤ 100000000) : Calls Try.prog 45 [(.agg (key.map b8).toArray), (.agg (nonce.map b8).toArray), (b32 ctr), (.slice A n c)].toArray w (Ret (T := Option Addr × Nat) [] w (fun ⟨B, d⟩ => True) (fun ⟨B, d⟩ => (.slice B n d)) (fun ⟨B, d⟩ => [.row (.slice B n d) 5 1 n ((cxor key nonce ctr xs).map b8)])) := by
 have hbl := fun c => cblock_len key c nonce
 have hF : Wid Fence.wide := wid_wide
 refine enter (c := _) Try.func45 rfl [] [(.agg (key.map b8).toArray), (.agg (nonce.map b8).toArray), (b32 ctr), (.slice A n c)] [.rd A 1 n c (xs.map b8)] (by rw [Try.ntmps45]; rfl) (own_rds hO rfl) ?_
 rw [Try.ntmps45]
 refine T_re [(0, (.agg (key.map b8).toArray)), (1, (.agg (nonce.map b8).toArray)), (2, (b32 ctr)), (3, (.slice A n c))] (sc rfl (sc rfl (sc rfl (sc rfl sn)))) ?_
 refine T_he [0] [.rd A 1 n c (xs.map b8)] ⟨by decide, rfl⟩ ?_
 refine Tsr hF rfl ?_
 refine L_op rfl (op_box (zs := (key.map b8)) rfl rfl rfl rfl rfl (fun g1 => ?_))
 refine L_op rfl (op_box (zs := (nonce.map b8)) rfl rfl rfl rfl rfl (fun g2 => ?_))
 refine la rfl rfl rfl rfl rfl ?_
 refine L_nil ?_
 refine Tsr hF rfl ?_
 refine la rfl rfl rfl rfl rfl ?_
 refine L_nil ?_
 refine Tsr hF rfl ?_
 refine L_op rfl (op_alloc (z := .agg ((List.replicate 64 0#8).map b8).toArray) (zs := ((List.replicate 64 0#8).map b8)) kr rfl rfl rfl rfl (fun g3 => ?_))
 refine L_nil ?_
 refine T_seq ?_
 refine Tsr hF rfl ?_
 refine la rfl rfl rfl rfl rfl ?_
 refine L_nil ?_
 refine T_block ?_
 refine T_nilrow 5 1 ?_
 refine T_as 0 _ (.row (.slice none 0 0) 5 1 0 ((xorb key nonce ctr xs (0)).map b8)) rfl (by rw [xorb_zero]; rfl) ?_
 refine T_loop (T := Nat × Option Addr × Nat × List (BitVec 8)) (fun ⟨i, A1, c1, ks⟩ => i ≤ n ∧ ks.length = 64 ∧ (¬ i % 64 = 0 → ks = cblock key (ctr + BitVec.ofNat 32 (i / 64)) nonce)) (fun ⟨i, A1, c1, ks⟩ => [(2, (b32 ctr)), (3, (.slice A n c)), (4, (.pointer (some ⟨g1, 0, none⟩))), (5, (.pointer (some ⟨g2, 0, none⟩))), (9, (.slice A1 i c1)), (10, (.pointer (some ⟨g3, 0, none⟩))), (11, (.int .i64 ((i : Nat) : Int)))]) (fun ⟨i, A1, c1, ks⟩ => [.row (.slice A1 i c1) 5 1 i ((xorb key nonce ctr xs (i)).map b8), .blk g3 84 (ks.map b8), .blk g2 38 (nonce.map b8), .blk g1 22 (key.map b8), .rd A 1 n c (xs.map b8)]) (fun ⟨i, A1, c1, ks⟩ => n - i) (0, none, 0, List.replicate 64 0#8) (⟨by omega, by simp, fun h => absurd rfl h⟩) (sc rfl (sc rfl (sc rfl (sc rfl (sc rfl (sc rfl (sc rfl sn))))))) [0, 1, 2, 3, 4] ⟨by decide, rfl⟩ ?_
 rintro ⟨i, A1, c1, ks⟩ hp
 have hp : i ≤ n ∧ ks.length = 64 ∧ (¬ i % 64 = 0 → ks = cblock key (ctr + BitVec.ofNat 32 (i / 64)) nonce) := hp
 have hkl := hp.2.1
 refine T_re [(2, (b32 ctr)), (3, (.slice A n c)), (4, (.pointer (some ⟨g1, 0, none⟩))), (5, (.pointer (some ⟨g2, 0, none⟩))), (9, (.slice A1 i c1)), (10, (.pointer (some ⟨g3, 0, none⟩))), (11, (.int .i64 ((i : Nat) : Int)))] (sc rfl (sc rfl (sc rfl (sc rfl (sc rfl (sc rfl (sc rfl sn))))))) ?_
 refine T_he [0, 1, 2, 3, 4] [.row (.slice A1 i c1) 5 1 i ((xorb key nonce ctr xs (i)).map b8), .blk g3 84 (ks.map b8), .blk g2 38 (nonce.map b8), .blk g1 22 (key.map b8), .rd A 1 n c (xs.map b8)] ⟨by decide, rfl⟩ ?_
 refine T_seq ?_
 refine Tsr hF rfl ?_
 refine lm rfl rfl rfl rfl rfl ?_
 refine lm rfl rfl rfl rfl rfl ?_
 refine lo rfl (pr_len_sl Try.underlying25 rfl rfl) rfl rfl ?_
 refine lo rfl (pr_cmp (bo := .lss) (nc_lt (a := i) (b := n)) rfl rfl rfl rfl) rfl rfl ?_
 refine L_nil ?_
 refine T_cond (decide (i < n)) rfl (fun hc_4 => ?_) (fun hc_4 => ?_)
 ·
  have hc_4 := of_decide_eq_true hc_4
  refine T_skip ?_
  refine T_seq ?_
  refine T_block ?_
  refine T_seq ?_
  refine Tsr hF rfl ?_
  refine lm rfl rfl rfl rfl rfl ?_
  refine lo rfl (pr_rem (a := i) (b := 64) sd rfl rfl rfl) rfl rfl ?_
  refine lo rfl (pr_cmp (bo := .eql) (nc_eq (a := i % 64) (b := 0)) rfl rfl rfl rfl) rfl rfl ?_
  refine L_nil ?_
  refine T_cond (i % 64 == 0) rfl (fun hc_5 => ?_) (fun hc_5 => ?_)
  ·
   have hc_5 : i % 64 = 0 := by simpa using hc_5
   refine T_reg hF rfl ?_
   refine lq rfl (ld_agg (ds := (key.map b8)) 3 rfl agg_all Try.underlying22 rfl (fwz (n := 32) kr sd) rfl rfl) rfl rfl ?_
   refine lm rfl rfl rfl rfl rfl ?_
   refine lm rfl rfl rfl rfl rfl ?_
   refine lo rfl (pr_quo (a := i) (b := 64) sd sd rfl rfl rfl) rfl rfl ?_
   refine lo rfl (pr_cv (nw32 (i / 64)) Try.underlying3 Try.underlying63 rfl rfl) rfl rfl ?_
   refine lo rfl (pr_add (add32 _ _) rfl rfl rfl) rfl rfl ?_
   refine lq rfl (ld_agg (ds := (nonce.map b8)) 2 rfl agg_all Try.underlying38 rfl (fwz (n := 12) kr sd) rfl rfl) rfl rfl ?_
   refine L_op rfl (op_cn (fun w hw => crblock_f key (ctr + (BitVec.ofNat 32 (i / 64))) nonce w (hok_nil w) (by first | assumption | exact sd) (by first | assumption | exact sd)) (enters_of Try.func58 kr rfl) rfl rfl rfl rfl rfl (fun t6 q7 => ?_))
   refine L_op rfl (op_sto (n := 64) (vs := ((cblock key (ctr + (BitVec.ofNat 32 (i / 64))) nonce).map b8)) 1 rfl rfl kr (all8_one _) sd sd rfl rfl rfl rfl ?_)
   refine L_nil ?_
   refine T_regD [.blk g3 84 ((cblock key (ctr + (BitVec.ofNat 32 (i / 64))) nonce).map b8), .row (.slice A1 i c1) 5 1 i ((xorb key nonce ctr xs (i)).map b8), .blk g2 38 (nonce.map b8), .blk g1 22 (key.map b8), .rd A 1 n c (xs.map b8)] 11 13 #[false, false, false, false, false, false, false, false, false, false, false, false, false] hF kr kr ?_
   refine D_pure (i := 0) [0, 1, 2, 3, 4] rfl kr rfl (pr_move rfl rfl) (.inr rfl) rfl rfl ?_
   refine D_pure (i := 1) [0, 1, 2, 3, 4] rfl kr rfl (pr_move rfl rfl) (.inr rfl) rfl rfl ?_
   refine D_pure (i := 2) [0, 1, 2, 3, 4] rfl kr rfl (pr_move rfl rfl) (.inr rfl) rfl rfl ?_
   refine D_pure (i := 3) [0, 1, 2, 3, 4] rfl kr rfl (pr_ixs1 (j := i) (src_none (src_rd 4 rfl)) sd Try.underlying25 kr rfl rfl rfl) (.inr rfl) rfl rfl ?_
   refine D_pure (i := 5) [0, 1, 2, 3, 4] rfl kr rfl (pr_move rfl rfl) (.inr rfl) rfl rfl ?_
   refine D_pure (i := 6) [0, 1, 2, 3, 4] rfl kr rfl (pr_rem (a := i) (b := 64) sd rfl rfl rfl) (.inr rfl) rfl rfl ?_
   refine D_pure (i := 7) [0, 1, 2, 3, 4] rfl kr rfl (pr_ixa (j := i % 64) (m' := i % 64) sd (by omega) Try.underlying84 (z := 1) kr rfl rfl rfl) (.inr rfl) rfl rfl ?_
   refine D_take (i := 4) [0, 1, 2, 3, 4] rfl kr rfl (ld_src (m := i) (src_rd 4 rfl) (get8 sd) Try.underlying5 rfl rfl rfl) rfl rfl rfl ?_
   refine D_take (i := 8) [0, 1, 2, 3, 4] rfl kr rfl (ld_blk 0 rfl (get8 sd) Try.underlying5 rfl rfl rfl) rfl rfl rfl ?_
   refine D_pure (i := 9) [0, 1, 2, 3, 4] rfl kr rfl (pr_xor (ib_xor8 _ _) rfl rfl rfl) (.inr rfl) rfl rfl ?_
   refine D_one 10 _ rfl kr rfl (op_bslice (e := 5) (zs := [(b8 ((ath xs i) ^^^ (ath (cblock key (ctr + (BitVec.ofNat 32 (i / 64))) nonce) (i % 64))))]) (qs := [(0, (b8 ((ath xs i) ^^^ (ath (cblock key (ctr + (BitVec.ofNat 32 (i / 64))) nonce) (i % 64)))))]) (fun _ => by kernel_rfl) rfl rfl rfl rfl (fun g8 => ?_))
   refine D_on [1, 2, 3, 4, 5] rfl ?_
   refine D_one 11 _ rfl kr rfl (op_append (z := (b8 (0#8))) (size := 1) (bytes := 1) 2 rfl Try.underlying25 kr kr (by decide) (src_full (z := 1) 0 rfl rfl sd sd) (by simp [Value.oneCell']) sd sd rfl rfl rfl rfl rfl (fun A9 C10 => ?_))
   refine T_as 0 _ (.row (.slice A9 (i + 1) C10) 5 1 (i + 1) (((xorb key nonce ctr xs (i)) ++ [((ath xs i) ^^^ (ath (cblock key (ctr + (BitVec.ofNat 32 (i / 64))) nonce) (i % 64)))]).map b8)) rfl (by first | rfl | (congr 1; simp; done) | (simp only [List.map_append]; rfl) | (rw [List.map_append]; rfl)) ?_
   refine D_past kr ?_
   refine D_pure (i := 12) [] rfl kr rfl (pr_assign rfl rfl) (.inl kr) rfl rfl ?_
   refine D_done kr ?_
   refine T_reg hF rfl ?_
   refine lm rfl rfl rfl rfl rfl ?_
   refine lo rfl (pr_add (na_i64 (a := i) (b := 1) sd) rfl rfl rfl) rfl rfl ?_
   refine la rfl rfl rfl rfl rfl ?_
   refine L_nil ?_
   refine T_as 0 _ (.row (.slice A9 (i + 1) C10) 5 1 (i + 1) ((xorb key nonce ctr xs ((i + 1))).map b8)) rfl (by first | rw [xorb_succ, hp.2.2 (by assumption)] | rw [xorb_succ]) ?_
   exact T_again (i + 1, A9, C10, (cblock key (ctr + (BitVec.ofNat 32 (i / 64))) nonce)) (by first | exact ⟨by omega, hbl _, fun h => by rw [xor_blk i (by assumption) h]⟩ | exact ⟨by omega, hp.2.1, fun h => by rw [hp.2.2 (by assumption), xor_blk2 i h]⟩) (by first | trivial | ((try dsimp only); first | omega | (refine ⟨?_, ?_⟩ <;> omega) | (refine ⟨?_, ?_, ?_⟩ <;> omega) | (simp; done) | (simp; omega))) (sc rfl (sc rfl (sc rfl (sc rfl (sc rfl (sc rfl (sc rfl sn))))))) [0, 2, 3, 4, 5] ⟨by decide, rfl⟩
  ·
   have hc_5 : ¬ i % 64 = 0 := by simpa using hc_5
   refine T_skip ?_
   refine T_regD [.row (.slice A1 i c1) 5 1 i ((xorb key nonce ctr xs (i)).map b8), .blk g3 84 (ks.map b8), .blk g2 38 (nonce.map b8), .blk g1 22 (key.map b8), .rd A 1 n c (xs.map b8)] 11 13 #[false, false, false, false, false, false, false, false, false, false, false, false, false] hF kr kr ?_
   refine D_pure (i := 0) [0, 1, 2, 3, 4] rfl kr rfl (pr_move rfl rfl) (.inr rfl) rfl rfl ?_
   refine D_pure (i := 1) [0, 1, 2, 3, 4] rfl kr rfl (pr_move rfl rfl) (.inr rfl) rfl rfl ?_
   refine D_pure (i := 2) [0, 1, 2, 3, 4] rfl kr rfl (pr_move rfl rfl) (.inr rfl) rfl rfl ?_
   refine D_pure (i := 3) [0, 1, 2, 3, 4] rfl kr rfl (pr_ixs1 (j := i) (src_none (src_rd 4 rfl)) sd Try.underlying25 kr rfl rfl rfl) (.inr rfl) rfl rfl ?_
   refine D_pure (i := 5) [0, 1, 2, 3, 4] rfl kr rfl (pr_move rfl rfl) (.inr rfl) rfl rfl ?_
   refine D_pure (i := 6) [0, 1, 2, 3, 4] rfl kr rfl (pr_rem (a := i) (b := 64) sd rfl rfl rfl) (.inr rfl) rfl rfl ?_
   refine D_pure (i := 7) [0, 1, 2, 3, 4] rfl kr rfl (pr_ixa (j := i % 64) (m' := i % 64) sd (by omega) Try.underlying84 (z := 1) kr rfl rfl rfl) (.inr rfl) rfl rfl ?_
   refine D_take (i := 4) [0, 1, 2, 3, 4] rfl kr rfl (ld_src (m := i) (src_rd 4 rfl) (get8 sd) Try.underlying5 rfl rfl rfl) rfl rfl rfl ?_
   refine D_take (i := 8) [0, 1, 2, 3, 4] rfl kr rfl (ld_blk 1 rfl (get8 sd) Try.underlying5 rfl rfl rfl) rfl rfl rfl ?_
   refine D_pure (i := 9) [0, 1, 2, 3, 4] rfl kr rfl (pr_xor (ib_xor8 _ _) rfl rfl rfl) (.inr rfl) rfl rfl ?_
   refine D_one 10 _ rfl kr rfl (op_bslice (e := 5) (zs := [(b8 ((ath xs i) ^^^ (ath ks (i % 64))))]) (qs := [(0, (b8 ((ath xs i) ^^^ (ath ks (i % 64)))))]) (fun _ => by kernel_rfl) rfl rfl rfl rfl (fun g11 => ?_))
   refine D_on [1, 2, 3, 4, 5] rfl ?_
   refine D_one 11 _ rfl kr rfl (op_append (z := (b8 (0#8))) (size := 1) (bytes := 1) 1 rfl Try.underlying25 kr kr (by decide) (src_full (z := 1) 0 rfl rfl sd sd) (by simp [Value.oneCell']) sd sd rfl rfl rfl rfl rfl (fun A12 C13 => ?_))
   refine T_as 0 _ (.row (.slice A12 (i + 1) C13) 5 1 (i + 1) (((xorb key nonce ctr xs (i)) ++ [((ath xs i) ^^^ (ath ks (i % 64)))]).map b8)) rfl (by first | rfl | (congr 1; simp; done) | (simp only [List.map_append]; rfl) | (rw [List.map_append]; rfl)) ?_
   refine D_past kr ?_
   refine D_pure (i := 12) [] rfl kr rfl (pr_assign rfl rfl) (.inl kr) rfl rfl ?_
   refine D_done kr ?_
   refine T_reg hF rfl ?_
   refine lm rfl rfl rfl rfl rfl ?_
   refine lo rfl (pr_add (na_i64 (a := i) (b := 1) sd) rfl rfl rfl) rfl rfl ?_
   refine la rfl rfl rfl rfl rfl ?_
   refine L_nil ?_
   refine T_as 0 _ (.row (.slice A12 (i + 1) C13) 5 1 (i + 1) ((xorb key nonce ctr xs ((i + 1))).map b8)) rfl (by first | rw [xorb_succ, hp.2.2 (by assumption)] | rw [xorb_succ]) ?_
   exact T_again (i + 1, A12, C13, ks) (by first | exact ⟨by omega, hbl _, fun h => by rw [xor_blk i (by assumption) h]⟩ | exact ⟨by omega, hp.2.1, fun h => by rw [hp.2.2 (by assumption), xor_blk2 i h]⟩) (by first | trivial | ((try dsimp only); first | omega | (refine ⟨?_, ?_⟩ <;> omega) | (refine ⟨?_, ?_, ?_⟩ <;> omega) | (simp; done) | (simp; omega))) (sc rfl (sc rfl (sc rfl (sc rfl (sc rfl (sc rfl (sc rfl sn))))))) [0, 2, 3, 4, 5] ⟨by decide, rfl⟩
 ·
  have hc_4 := of_decide_eq_false hc_4
  refine T_exit rfl ?_
  obtain rfl : n = i := by omega
  refine Tsr hF rfl ?_
  refine lm rfl rfl rfl rfl rfl ?_
  refine la rfl rfl rfl rfl rfl ?_
  refine L_nil ?_
  refine T_ret ?_
  refine T_as 0 _ (.row (.slice A1 n c1) 5 1 n ((cxor key nonce ctr xs).map b8)) rfl (by rw [cxor_def _ _ _ _ _ hx]) ?_
  exact T_fin (A1, c1) (by first | trivial | omega | (simp; done)) (res1 rfl rfl) [0] ⟨by decide, rfl⟩ rfl
theorem xor_at {key nonce : List (BitVec 8)} {ctr : BitVec 32} (k i : Nat) (h : i < 64) : ath (cblock key (ctr + BitVec.ofNat 32 ((64 * k + i) / 64)) nonce) ((64 * k + i) % 64) = ath (cblock key (ctr + BitVec.ofNat 32 k) nonce) i := by
  rw [show (64 * k + i) / 64 = k by omega, show (64 * k + i) % 64 = i by omega]

set_option maxRecDepth 100000 in
set_option maxHeartbeats 4000000 in
theorem xor_pos_f (key : List (BitVec 8)) (nonce : List (BitVec 8)) (ctr : BitVec 32) (xs : List (BitVec 8)) (A : Option Addr) (n : Nat) (c : Nat) (w : World) (hO : HOK [.rd A 1 n c (xs.map b8)] w) (hk : key.length = 32) (hn : nonce.length = 12) (hx : xs.length = n) (hn9 : n ≤ 100000000) (hpos : 0 < n) : Calls Try.prog 43 [(.agg (key.map b8).toArray), (.agg (nonce.map b8).toArray), (b32 ctr), (.slice A n c)].toArray w (Ret (T := Option Addr × Nat) [] w (fun ⟨B, d⟩ => True) (fun ⟨B, d⟩ => (.slice B n d)) (fun ⟨B, d⟩ => [.row (.slice B n d) 5 1 n ((cxor key nonce ctr xs).map b8)])) := by
 have hbl := fun c => cblock_len key c nonce
 have hF : Wid Fence.wide := wid_wide
 refine enter_m (c := _) Try.func43 rfl [] [(.agg (key.map b8).toArray), (.agg (nonce.map b8).toArray), (b32 ctr), (.slice A n c)] [.rd A 1 n c (xs.map b8)] (by rw [Try.ntmps43]; rfl) (own_rds hO rfl) ?_
 rw [Try.ntmps43]
 refine T_re [(0, (.agg (key.map b8).toArray)), (1, (.agg (nonce.map b8).toArray)), (2, (b32 ctr)), (3, (.slice A n c))] (sc rfl (sc rfl (sc rfl (sc rfl sn)))) ?_
 refine T_he [0] [.rd A 1 n c (xs.map b8)] ⟨by decide, rfl⟩ ?_
 refine Tsr hF rfl ?_
 refine L_op rfl (op_box (zs := (key.map b8)) rfl rfl rfl rfl rfl (fun g1 => ?_))
 refine L_op rfl (op_box (zs := (nonce.map b8)) rfl rfl rfl rfl rfl (fun g2 => ?_))
 refine L_op rfl (op_box (zs := [(.slice A n c)]) rfl rfl rfl rfl rfl (fun g3 => ?_))
 refine la rfl rfl rfl rfl rfl ?_
 refine L_nil ?_
 refine T_scope rfl ?_
 refine Tsr hF rfl ?_
 refine lq rfl (ld_blk 0 rfl rfl Try.underlying25 rfl rfl rfl) rfl rfl ?_
 refine lo rfl (pr_len_sl Try.underlying25 rfl rfl) rfl rfl ?_
 refine L_op rfl (op_make (z := (b8 (0#8))) (n := 0) (c := n) Try.underlying25 (bytes := 1) kr rfl sd sd sd rfl rfl rfl rfl rfl (fun g4 => ?_))
 refine T_as 0 _ (.blk g4 5 ((List.replicate n 0#8).map b8)) rfl (by rw [List.map_replicate]) ?_
 refine L_op rfl (op_alloc (z := (.slice none 0 0)) (zs := [(.slice none 0 0)]) kr rfl rfl rfl rfl (fun g5 => ?_))
 refine L_op rfl (op_store (vs := [(.slice (some ⟨g4, 0, none⟩) 0 n)]) (cs' := [(.slice (some ⟨g4, 0, none⟩) 0 n)]) 0 rfl rfl kr (one_one rfl) (by first | decide | simp | exact Nat.le_refl _) rfl rfl rfl rfl rfl ?_)
 refine L_nil ?_
 refine T_seq ?_
 refine Tsr hF rfl ?_
 refine lq rfl (ld_blk 2 rfl rfl Try.underlying25 rfl rfl rfl) rfl rfl ?_
 refine lo rfl (pr_len_sl Try.underlying25 rfl rfl) rfl rfl ?_
 refine lo rfl (pr_cmp (bo := .eql) (nc_eq (a := n) (b := 0)) rfl rfl rfl rfl) rfl rfl ?_
 refine L_nil ?_
 refine T_cond_no (t := (n == 0)) rfl (by simp; omega) ?_
 refine T_skip ?_
 refine T_seq ?_
 refine T_label ?_
 refine T_seq ?_
 refine Tsr hF rfl ?_
 refine lq rfl (ld_agg (ds := (key.map b8)) 4 rfl agg_all Try.underlying22 rfl (fwz (n := 32) kr sd) rfl rfl) rfl rfl ?_
 refine lq rfl (ld_agg (ds := (nonce.map b8)) 3 rfl agg_all Try.underlying38 rfl (fwz (n := 12) kr sd) rfl rfl) rfl rfl ?_
 refine lm rfl rfl rfl rfl rfl ?_
 refine L_op rfl (op_cn (fun w hw => blocks_f key nonce ctr w (hok_nil w) (by first | assumption | exact sd) (by first | assumption | exact sd)) (enters_of Try.func55 kr rfl) rfl rfl rfl rfl rfl (fun t6 q7 => ?_))
 obtain ⟨g1_8, g2_9, g3_10⟩ := t6
 refine L_nil ?_
 refine T_block ?_
 refine T_tord 0 rfl ?_
 refine T_tord 1 rfl ?_
 refine T_tord 2 rfl ?_
 refine T_as 3 _ (.blk g5 25 [(.slice (some ⟨g4, 0, none⟩) (64 * 0) n)]) rfl (by first | rfl | simp | (congr 1; simp)) ?_
 refine T_rowb 4 (zs := ((xorb key nonce ctr xs (64 * 0)).map b8)) 1 (64 * 0) n rfl sd sd sd (by rw [show 64 * 0 = 0 from rfl, xorb_zero]; rfl) ?_
 refine T_range (Θ := Unit) (T := Option Addr × Nat) (Tx := Option Addr × Nat) (cap := [(.pointer (some ⟨g1_8, 0, none⟩)), (.pointer (some ⟨g2_9, 0, none⟩)), (.pointer (some ⟨g3_10, 0, none⟩))]) (ps := [24]) (blocks_seq key ctr nonce g1_8 g2_9 g3_10 n sd sd) rfl (enters_of Try.func62 kr rfl) (fun k ⟨A1, c1⟩ => 64 * k < n) (fun k ⟨A1, c1⟩ => [.rd (some ⟨g3_10, 0, none⟩) 1 12 12 (nonce.map b8), .rd (some ⟨g2_9, 0, none⟩) 1 32 32 (key.map b8), .rd (some ⟨g1_8, 0, none⟩) 1 1 1 [(b32 ctr)], .blk g5 25 [(.slice A1 (64 * k) c1)], .row (.slice A1 (64 * k) c1) 5 1 (64 * k) ((xorb key nonce ctr xs (64 * k)).map b8), .blk g3 25 [(.slice A n c)], .blk g2 38 (nonce.map b8), .blk g1 22 (key.map b8), .rd A 1 n c (xs.map b8)]) (fun ⟨A1, c1⟩ => True) (fun ⟨A1, c1⟩ => [.rd (some ⟨g3_10, 0, none⟩) 1 12 12 (nonce.map b8), .rd (some ⟨g2_9, 0, none⟩) 1 32 32 (key.map b8), .rd (some ⟨g1_8, 0, none⟩) 1 1 1 [(b32 ctr)], .blk g5 25 [(.slice A1 n c1)], .row (.slice A1 n c1) 5 1 n ((cxor key nonce ctr xs).map b8), .blk g3 25 [(.slice A n c)], .blk g2 38 (nonce.map b8), .blk g1 22 (key.map b8), .rd A 1 n c (xs.map b8)]) 0 (some ⟨g4, 0, none⟩, n) (by omega) [2, 3, 4, 1, 0, 5, 6, 7, 8] ⟨by decide, rfl⟩ [4, 3, 2] rfl rfl (fun _ _ => rfl) (fun _ => rfl) (fun _ _ => rfl) (fun _ _ => rfl) rfl (fun _ => trivial) (hE := fun _ t hp => by omega) ?_ ?_ ?_
 ·
  intro C2 w2 lo2 rs2 l D m k t th rc hrec hk hp
  obtain ⟨A1, c1⟩ := t
  have hp : 64 * k < n := hp
  have hk : k < n := hk
  have hblk := hbl (ctr + BitVec.ofNat 32 k)
  have hF : Wid (Fence.wide.inRound l) := wid_round l
  refine T_re [(7, (.pointer (some ⟨g3, 0, none⟩))), (9, (.pointer (some ⟨g5, 0, none⟩))), (24, (.agg ((cblock key (ctr + (BitVec.ofNat 32 k)) nonce).map b8).toArray))] (sc rfl (sc rfl (sc rfl sn))) ?_
  refine T_he [0, 1, 2, 3, 4, 5, 6, 7, 8, 9, 10] [.obj l (.loop rc), .obj D (.deferred (some [])), .rd (some ⟨g3_10, 0, none⟩) 1 12 12 (nonce.map b8), .rd (some ⟨g2_9, 0, none⟩) 1 32 32 (key.map b8), .rd (some ⟨g1_8, 0, none⟩) 1 1 1 [(b32 ctr)], .blk g5 25 [(.slice A1 (64 * k) c1)], .row (.slice A1 (64 * k) c1) 5 1 (64 * k) ((xorb key nonce ctr xs (64 * k)).map b8), .blk g3 25 [(.slice A n c)], .blk g2 38 (nonce.map b8), .blk g1 22 (key.map b8), .rd A 1 n c (xs.map b8)] ⟨by decide, rfl⟩ ?_
  refine T_reg hF rfl ?_
  refine L_op rfl (op_alloc (z := .agg ((List.replicate 64 0#8).map b8).toArray) (zs := ((List.replicate 64 0#8).map b8)) kr rfl rfl rfl rfl (fun g11 => ?_))
  refine L_op rfl (op_sto (n := 64) (vs := ((cblock key (ctr + (BitVec.ofNat 32 k)) nonce).map b8)) 0 rfl rfl kr (all8_one _) kr sd rfl rfl rfl rfl ?_)
  refine L_nil ?_
  refine T_begun 1 rfl hrec ?_
  refine T_block ?_
  refine Tsr hF rfl ?_
  refine lq rfl (ld_agg (ds := ((cblock key (ctr + (BitVec.ofNat 32 k)) nonce).map b8)) 1 rfl agg_all Try.underlying84 rfl (fwz (n := 64) kr sd) rfl rfl) rfl rfl ?_
  refine lm rfl rfl rfl rfl rfl ?_
  refine L_nil ?_
  refine T_block ?_
  refine T_as 6 _ (.blk g5 25 [(.slice A1 (64 * k + 0) c1)]) rfl (by rfl) ?_
  refine T_as 7 _ (.row (.slice A1 (64 * k + 0) c1) 5 1 (64 * k + 0) ((xorb key nonce ctr xs (64 * k + 0)).map b8)) rfl (by rfl) ?_
  refine T_loop (T := Nat × Option Addr × Nat) (fun ⟨i, A2, c2⟩ => i ≤ 64 ∧ 64 * k + i < n) (fun ⟨i, A2, c2⟩ => [(7, (.pointer (some ⟨g3, 0, none⟩))), (9, (.pointer (some ⟨g5, 0, none⟩))), (25, (.agg ((cblock key (ctr + (BitVec.ofNat 32 k)) nonce).map b8).toArray)), (26, (.int .i64 ((i : Nat) : Int)))]) (fun ⟨i, A2, c2⟩ => [.obj l (.loop { rc with state := .busy }), .blk g11 84 ((cblock key (ctr + (BitVec.ofNat 32 k)) nonce).map b8), .obj D (.deferred (some [])), .rd (some ⟨g3_10, 0, none⟩) 1 12 12 (nonce.map b8), .rd (some ⟨g2_9, 0, none⟩) 1 32 32 (key.map b8), .rd (some ⟨g1_8, 0, none⟩) 1 1 1 [(b32 ctr)], .blk g5 25 [(.slice A2 (64 * k + i) c2)], .row (.slice A2 (64 * k + i) c2) 5 1 (64 * k + i) ((xorb key nonce ctr xs (64 * k + i)).map b8), .blk g3 25 [(.slice A n c)], .blk g2 38 (nonce.map b8), .blk g1 22 (key.map b8), .rd A 1 n c (xs.map b8)]) (fun ⟨i, A2, c2⟩ => 64 - i) (0, A1, c1) (by first | trivial | ((try dsimp only); first | omega | (refine ⟨?_, ?_⟩ <;> omega) | (refine ⟨?_, ?_, ?_⟩ <;> omega) | (simp; done) | (simp; omega))) (sc rfl (sc rfl (sc rfl (sc rfl sn)))) [2, 3, 4, 5, 6, 7, 1, 0, 8, 9, 10, 11] ⟨by decide, rfl⟩ ?_
  rintro ⟨i, A2, c2⟩ hp
  have hp : i ≤ 64 ∧ 64 * k + i < n := hp
  refine T_re [(7, (.pointer (some ⟨g3, 0, none⟩))), (9, (.pointer (some ⟨g5, 0, none⟩))), (25, (.agg ((cblock key (ctr + (BitVec.ofNat 32 k)) nonce).map b8).toArray)), (26, (.int .i64 ((i : Nat) : Int)))] (sc rfl (sc rfl (sc rfl (sc rfl sn)))) ?_
  refine T_he [0, 1, 2, 3, 4, 5, 6, 7, 8, 9, 10, 11] [.obj l (.loop { rc with state := .busy }), .blk g11 84 ((cblock key (ctr + (BitVec.ofNat 32 k)) nonce).map b8), .obj D (.deferred (some [])), .rd (some ⟨g3_10, 0, none⟩) 1 12 12 (nonce.map b8), .rd (some ⟨g2_9, 0, none⟩) 1 32 32 (key.map b8), .rd (some ⟨g1_8, 0, none⟩) 1 1 1 [(b32 ctr)], .blk g5 25 [(.slice A2 (64 * k + i) c2)], .row (.slice A2 (64 * k + i) c2) 5 1 (64 * k + i) ((xorb key nonce ctr xs (64 * k + i)).map b8), .blk g3 25 [(.slice A n c)], .blk g2 38 (nonce.map b8), .blk g1 22 (key.map b8), .rd A 1 n c (xs.map b8)] ⟨by decide, rfl⟩ ?_
  refine Tsr hF rfl ?_
  refine lo rfl (pr_cmp (bo := .lss) (nc_lt (a := i) (b := 64)) rfl rfl rfl rfl) rfl rfl ?_
  refine L_nil ?_
  refine T_seq ?_
  refine T_cond (decide (i < 64)) rfl (fun hc_12 => ?_) (fun hc_12 => ?_)
  ·
   have hc_12 := of_decide_eq_true hc_12
   refine T_skip ?_
   refine T_seq ?_
   refine T_block ?_
   refine Tsr hF rfl ?_
   refine lo rfl (pr_ix (cs := ((cblock key (ctr + (BitVec.ofNat 32 k)) nonce).map b8)) (j := i) sd (get8 sd) Try.underlying84 Try.underlying5 rfl kr rfl rfl rfl) rfl rfl ?_
   refine la rfl rfl rfl rfl rfl ?_
   refine L_nil ?_
   refine T_seq ?_
   refine T_regD [.obj l (.loop { rc with state := .busy }), .blk g11 84 ((cblock key (ctr + (BitVec.ofNat 32 k)) nonce).map b8), .obj D (.deferred (some [])), .rd (some ⟨g3_10, 0, none⟩) 1 12 12 (nonce.map b8), .rd (some ⟨g2_9, 0, none⟩) 1 32 32 (key.map b8), .rd (some ⟨g1_8, 0, none⟩) 1 1 1 [(b32 ctr)], .blk g5 25 [(.slice A2 (64 * k + i) c2)], .row (.slice A2 (64 * k + i) c2) 5 1 (64 * k + i) ((xorb key nonce ctr xs (64 * k + i)).map b8), .blk g3 25 [(.slice A n c)], .blk g2 38 (nonce.map b8), .blk g1 22 (key.map b8), .rd A 1 n c (xs.map b8)] 9 11 #[false, false, false, false, false, false, false, false, false, false, false] hF kr kr ?_
   refine D_pure (i := 6) [0, 1, 2, 3, 4, 5, 6, 7, 8, 9, 10, 11] rfl kr rfl (pr_move rfl rfl) (.inr rfl) rfl rfl ?_
   refine D_take (i := 0) [0, 1, 2, 3, 4, 5, 6, 7, 8, 9, 10, 11] rfl kr rfl (ld_blk 6 rfl rfl Try.underlying25 rfl rfl rfl) rfl rfl rfl ?_
   refine D_take (i := 1) [0, 1, 2, 3, 4, 5, 6, 7, 8, 9, 10, 11] rfl kr rfl (ld_blk 8 rfl rfl Try.underlying25 rfl rfl rfl) rfl rfl rfl ?_
   refine D_take (i := 2) [0, 1, 2, 3, 4, 5, 6, 7, 8, 9, 10, 11] rfl kr rfl (ld_blk 6 rfl rfl Try.underlying25 rfl rfl rfl) rfl rfl rfl ?_
   refine D_pure (i := 3) [0, 1, 2, 3, 4, 5, 6, 7, 8, 9, 10, 11] rfl kr rfl (pr_len_sl Try.underlying25 rfl rfl) (.inr rfl) rfl rfl ?_
   refine D_pure (i := 4) [0, 1, 2, 3, 4, 5, 6, 7, 8, 9, 10, 11] rfl kr rfl (pr_ixs1 (j := 64 * k + i) (src_none (src_rd 11 rfl)) sd Try.underlying25 kr rfl rfl rfl) (.inr rfl) rfl rfl ?_
   refine D_take (i := 5) [0, 1, 2, 3, 4, 5, 6, 7, 8, 9, 10, 11] rfl kr rfl (ld_src (m := 64 * k + i) (src_rd 11 rfl) (get8 sd) Try.underlying5 rfl rfl rfl) rfl rfl rfl ?_
   refine D_pure (i := 7) [0, 1, 2, 3, 4, 5, 6, 7, 8, 9, 10, 11] rfl kr rfl (pr_xor (ib_xor8 _ _) rfl rfl rfl) (.inr rfl) rfl rfl ?_
   refine D_one 8 _ rfl kr rfl (op_bslice (e := 5) (zs := [(b8 ((ath xs (64 * k + i)) ^^^ (ath (cblock key (ctr + (BitVec.ofNat 32 k)) nonce) i)))]) (qs := [(0, (b8 ((ath xs (64 * k + i)) ^^^ (ath (cblock key (ctr + (BitVec.ofNat 32 k)) nonce) i))))]) (fun _ => by kernel_rfl) rfl rfl rfl rfl (fun g13 => ?_))
   refine D_on [1, 2, 3, 4, 5, 6, 7, 8, 9, 10, 11, 12] rfl ?_
   refine D_one 9 _ rfl kr rfl (op_append (z := (b8 (0#8))) (size := 1) (bytes := 1) 8 rfl Try.underlying25 kr kr (by decide) (src_full (z := 1) 0 rfl rfl sd sd) (by simp [Value.oneCell']) sd sd rfl rfl rfl rfl rfl (fun A14 C15 => ?_))
   refine T_as 0 _ (.row (.slice A14 (64 * k + i + 1) C15) 5 1 (64 * k + i + 1) (((xorb key nonce ctr xs (64 * k + i)) ++ [((ath xs (64 * k + i)) ^^^ (ath (cblock key (ctr + (BitVec.ofNat 32 k)) nonce) i))]).map b8)) rfl (by first | rfl | (congr 1; simp; done) | (simp only [List.map_append]; rfl) | (rw [List.map_append]; rfl)) ?_
   refine D_past kr ?_
   refine D_one 10 _ rfl kr rfl (op_store (vs := [(.slice A14 (64 * k + i + 1) C15)]) (cs' := [(.slice A14 (64 * k + i + 1) C15)]) 8 rfl rfl kr (one_one rfl) (by first | decide | simp | exact Nat.le_refl _) rfl rfl rfl rfl rfl ?_)
   refine D_past kr ?_
   refine D_done kr ?_
   refine Tsr hF rfl ?_
   refine lq rfl (ld_blk 0 rfl rfl Try.underlying25 rfl rfl rfl) rfl rfl ?_
   refine lo rfl (pr_len_sl Try.underlying25 rfl rfl) rfl rfl ?_
   refine lq rfl (ld_blk 9 rfl rfl Try.underlying25 rfl rfl rfl) rfl rfl ?_
   refine lo rfl (pr_len_sl Try.underlying25 rfl rfl) rfl rfl ?_
   refine lo rfl (pr_cmp (bo := .eql) (nc_eq (a := 64 * k + i + 1) (b := n)) rfl rfl rfl rfl) rfl rfl ?_
   refine L_nil ?_
   refine T_cond (64 * k + i + 1 == n) rfl (fun hc_16 => ?_) (fun hc_16 => ?_)
   ·
    have hc_16 : 64 * k + i + 1 = n := by simpa using hc_16
    refine T_exit rfl ?_
    have hnn : 64 * k + i + 1 = n := by assumption
    refine T_as 0 _ (.blk g5 25 [(.slice A14 n C15)]) rfl (by rw [hnn]) ?_
    refine T_as 1 _ (.row (.slice A14 n C15) 5 1 n ((cxor key nonce ctr xs).map b8)) rfl (by rw [← xor_at k i (by omega), ← xorb_succ, hnn, cxor_def _ _ _ _ _ hx]) ?_
    exact T_on (A14, C15) (by first | trivial | ((try dsimp only); first | omega | (refine ⟨?_, ?_⟩ <;> omega) | (refine ⟨?_, ?_, ?_⟩ <;> omega) | (simp; done) | (simp; omega))) [3, 5, 6, 7, 8, 1, 0, 9, 10, 11, 12] ⟨by decide, rfl⟩
   ·
    have hc_16 : ¬ 64 * k + i + 1 = n := by simpa using hc_16
    refine T_skip ?_
    refine T_reg hF rfl ?_
    refine lo rfl (pr_add (na_i64 (a := i) (b := 1) sd) rfl rfl rfl) rfl rfl ?_
    refine lm rfl rfl rfl rfl rfl ?_
    refine L_nil ?_
    refine T_as 0 _ (.blk g5 25 [(.slice A14 (64 * k + (i + 1)) C15)]) rfl (by rw [← Nat.add_assoc]) ?_
    refine T_as 1 _ (.row (.slice A14 (64 * k + (i + 1)) C15) 5 1 (64 * k + (i + 1)) ((xorb key nonce ctr xs (64 * k + (i + 1))).map b8)) rfl (by rw [← Nat.add_assoc, xorb_succ, xor_at k i (by omega)]) ?_
    exact T_again (i + 1, A14, C15) (⟨by omega, by omega⟩) (by first | trivial | ((try dsimp only); first | omega | (refine ⟨?_, ?_⟩ <;> omega) | (refine ⟨?_, ?_, ?_⟩ <;> omega) | (simp; done) | (simp; omega))) (sc rfl (sc rfl (sc rfl (sc rfl sn)))) [3, 4, 5, 6, 7, 8, 1, 0, 9, 10, 11, 12] ⟨by decide, rfl⟩
  ·
   have hc_12 := of_decide_eq_false hc_12
   refine T_exit rfl ?_
   obtain rfl : 64 = i := by omega
   refine T_as 6 _ (.blk g5 25 [(.slice A2 (64 * (k + 1)) c2)]) rfl (by rw [show 64 * (k + 1) = 64 * k + 64 by omega]) ?_
   refine T_as 7 _ (.row (.slice A2 (64 * (k + 1)) c2) 5 1 (64 * (k + 1)) ((xorb key nonce ctr xs (64 * (k + 1))).map b8)) rfl (by rw [show 64 * (k + 1) = 64 * k + 64 by omega]) ?_
   exact T_on (A2, c2) (by omega) [2, 4, 5, 6, 7, 1, 0, 8, 9, 10, 11] ⟨by decide, rfl⟩
 ·
  intro D t hp
  obtain ⟨A1, c1⟩ := t
  have hp : 64 * n < n := hp
  refine T_re [(9, (.pointer (some ⟨g5, 0, none⟩)))] (sc rfl sn) ?_
  refine T_he [0, 1, 2, 3, 4, 5, 6, 7, 8, 9] [.obj D (.deferred (some [])), .rd (some ⟨g3_10, 0, none⟩) 1 12 12 (nonce.map b8), .rd (some ⟨g2_9, 0, none⟩) 1 32 32 (key.map b8), .rd (some ⟨g1_8, 0, none⟩) 1 1 1 [(b32 ctr)], .blk g5 25 [(.slice A1 (64 * n) c1)], .row (.slice A1 (64 * n) c1) 5 1 (64 * n) ((xorb key nonce ctr xs (64 * n)).map b8), .blk g3 25 [(.slice A n c)], .blk g2 38 (nonce.map b8), .blk g1 22 (key.map b8), .rd A 1 n c (xs.map b8)] ⟨by decide, rfl⟩ ?_
  exfalso; omega
 ·
  intro D t hq
  obtain ⟨A1, c1⟩ := t
  have hq : True := hq
  refine T_exit rfl ?_
  refine T_re [(9, (.pointer (some ⟨g5, 0, none⟩)))] (sc rfl sn) ?_
  refine T_he [0, 1, 2, 3, 4, 5, 6, 7, 8, 9] [.obj D (.deferred (some [])), .rd (some ⟨g3_10, 0, none⟩) 1 12 12 (nonce.map b8), .rd (some ⟨g2_9, 0, none⟩) 1 32 32 (key.map b8), .rd (some ⟨g1_8, 0, none⟩) 1 1 1 [(b32 ctr)], .blk g5 25 [(.slice A1 n c1)], .row (.slice A1 n c1) 5 1 n ((cxor key nonce ctr xs).map b8), .blk g3 25 [(.slice A n c)], .blk g2 38 (nonce.map b8), .blk g1 22 (key.map b8), .rd A 1 n c (xs.map b8)] ⟨by decide, rfl⟩ ?_
  refine Tsr hF rfl ?_
  refine lq rfl (ld_blk 4 rfl rfl Try.underlying25 rfl rfl rfl) rfl rfl ?_
  refine la rfl rfl rfl rfl rfl ?_
  refine L_nil ?_
  refine T_ret ?_
  exact T_finM 0 rfl (A1, c1) (by first | trivial | omega | (simp; done)) (res1 rfl rfl) [4] ⟨by decide, rfl⟩ rfl
set_option maxHeartbeats 4000000 in
theorem xor_nil_f (key : List (BitVec 8)) (nonce : List (BitVec 8)) (ctr : BitVec 32) (A : Option Addr) (c : Nat) (w : World) (hO : HOK [.rd A 1 0 c []] w) (hk : key.length = 32) (hn : nonce.length = 12) : Calls Try.prog 43 [(.agg (key.map b8).toArray), (.agg (nonce.map b8).toArray), (b32 ctr), (.slice A 0 c)].toArray w (Ret (T := Option Addr × Nat) [] w (fun ⟨B, d⟩ => True) (fun ⟨B, d⟩ => (.slice B 0 d)) (fun ⟨B, d⟩ => [.row (.slice B 0 d) 5 1 0 []])) := by
 have hF : Wid Fence.wide := wid_wide
 refine enter_m (c := _) Try.func43 rfl [] [(.agg (key.map b8).toArray), (.agg (nonce.map b8).toArray), (b32 ctr), (.slice A 0 c)] [.rd A 1 0 c []] (by rw [Try.ntmps43]; rfl) (own_rds hO rfl) ?_
 rw [Try.ntmps43]
 refine T_re [(0, (.agg (key.map b8).toArray)), (1, (.agg (nonce.map b8).toArray)), (2, (b32 ctr)), (3, (.slice A 0 c))] (sc rfl (sc rfl (sc rfl (sc rfl sn)))) ?_
 refine T_he [0] [.rd A 1 0 c []] ⟨by decide, rfl⟩ ?_
 refine Tsr hF rfl ?_
 refine L_op rfl (op_box (zs := (key.map b8)) rfl rfl rfl rfl rfl (fun g1 => ?_))
 refine L_op rfl (op_box (zs := (nonce.map b8)) rfl rfl rfl rfl rfl (fun g2 => ?_))
 refine L_op rfl (op_box (zs := [(.slice A 0 c)]) rfl rfl rfl rfl rfl (fun g3 => ?_))
 refine la rfl rfl rfl rfl rfl ?_
 refine L_nil ?_
 refine T_scope rfl ?_
 refine Tsr hF rfl ?_
 refine lq rfl (ld_blk 0 rfl rfl Try.underlying25 rfl rfl rfl) rfl rfl ?_
 refine lo rfl (pr_len_sl Try.underlying25 rfl rfl) rfl rfl ?_
 refine L_op rfl (op_make (z := (b8 (0#8))) (n := 0) (c := 0) Try.underlying25 (bytes := 1) kr rfl sd sd sd rfl rfl rfl rfl rfl (fun g4 => ?_))
 refine T_as 0 _ (.blk g4 5 []) rfl rfl ?_
 refine L_op rfl (op_alloc (z := (.slice none 0 0)) (zs := [(.slice none 0 0)]) kr rfl rfl rfl rfl (fun g5 => ?_))
 refine L_op rfl (op_store (vs := [(.slice (some ⟨g4, 0, none⟩) 0 0)]) (cs' := [(.slice (some ⟨g4, 0, none⟩) 0 0)]) 0 rfl rfl kr (one_one rfl) (by first | decide | simp | exact Nat.le_refl _) rfl rfl rfl rfl rfl ?_)
 refine L_nil ?_
 refine T_seq ?_
 refine Tsr hF rfl ?_
 refine lq rfl (ld_blk 2 rfl rfl Try.underlying25 rfl rfl rfl) rfl rfl ?_
 refine lo rfl (pr_len_sl Try.underlying25 rfl rfl) rfl rfl ?_
 refine lo rfl (pr_cmp (bo := .eql) (nc_eq (a := 0) (b := 0)) rfl rfl rfl rfl) rfl rfl ?_
 refine L_nil ?_
 refine T_cond_t rfl ?_
 refine Tsr hF rfl ?_
 refine lq rfl (ld_blk 0 rfl rfl Try.underlying25 rfl rfl rfl) rfl rfl ?_
 refine la rfl rfl rfl rfl rfl ?_
 refine L_nil ?_
 refine T_ret ?_
 refine T_rowb 1 (zs := []) 1 0 0 rfl sd sd rfl (rfl) ?_
 exact T_finM0 (some ⟨g4, 0, none⟩, 0) (by first | trivial | omega | (simp; done)) (res1 rfl rfl) [0] ⟨by decide, rfl⟩ rfl
theorem xor_f (key : List (BitVec 8)) (nonce : List (BitVec 8)) (ctr : BitVec 32) (xs : List (BitVec 8)) (A : Option Addr) (n : Nat) (c : Nat) (w : World) (hO : HOK [.rd A 1 n c (xs.map b8)] w) (hk : key.length = 32) (hn : nonce.length = 12) (hx : xs.length = n) (hn9 : n ≤ 100000000) : Calls Try.prog 43 [(.agg (key.map b8).toArray), (.agg (nonce.map b8).toArray), (b32 ctr), (.slice A n c)].toArray w (Ret (T := Option Addr × Nat) [] w (fun ⟨B, d⟩ => True) (fun ⟨B, d⟩ => (.slice B n d)) (fun ⟨B, d⟩ => [.row (.slice B n d) 5 1 n ((cxor key nonce ctr xs).map b8)])) := by
  by_cases h : 0 < n
  · exact xor_pos_f key nonce ctr xs A n c w hO hk hn hx hn9 h
  · obtain rfl : n = 0 := by omega
    obtain rfl : xs = [] := List.eq_nil_of_length_eq_zero hx
    have e : cxor key nonce ctr [] = [] := List.eq_nil_of_length_eq_zero (cxor_len key nonce ctr [])
    rw [e]
    exact xor_nil_f key nonce ctr A c w hO hk hn

end Go.Proofs.Ytemjinkdfjoicaa
