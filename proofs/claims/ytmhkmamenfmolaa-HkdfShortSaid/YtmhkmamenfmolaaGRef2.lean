/- What the reference of layer 2 answers, and awake, by facts. -/
import Derived.Test.YtmhkmamenfmolaaGSha3
import Derived.Test.YtmhkmamenfmolaaGHlp
import Derived.Test.YtmhkmamenfmolaaRef2P
import Derived.Test.YtmhkmamenfmolaaProg
import Derived.Test.YtmhkmamenfmolaaFwU
namespace Go.Proofs.Ytmhkmamenfmolaa
set_option linter.unusedVariables false
set_option linter.unusedSimpArgs false
set_option linter.unnecessarySimpa false
open Go.RowKit Bv Fw

theorem abc_at : ∀ x ∈ [(0, 186#8), (1, 120#8), (31, 173#8)], ath (shasum [97#8, 98#8, 99#8]) x.1 = x.2 := by
  have h0 : ath (shasum [97#8, 98#8, 99#8]) 0 = 186#8 := by kernel_rfl
  have h1 : ath (shasum [97#8, 98#8, 99#8]) 1 = 120#8 := by kernel_rfl
  have h2 : ath (shasum [97#8, 98#8, 99#8]) 31 = 173#8 := by kernel_rfl
  intro x hx
  simp only [List.mem_cons, List.not_mem_nil, or_false] at hx
  rcases hx with rfl | rfl | rfl
  · exact h0
  · exact h1
  · exact h2
theorem pad_bits (n k : Nat) (hk : k < 8) : highb (BitVec.ofNat 64 n * 8#64) 8 (k + 1) = highb (BitVec.ofNat 64 n * 8#64) 8 k ++ [((BitVec.ofNat 64 n * 8#64) >>> (8 * (7 - k))).setWidth 8] := by
  rw [highb]

set_option maxHeartbeats 4000000 in
theorem awake_f  (w : World) (hO : HOK [] w)  : Calls Try.prog 15 [].toArray w (Ret (T := Unit) [] w (fun _ => True) (fun _ => (.bool true)) (fun _ => [])) := by
  have hsl := shasum_len [97#8, 98#8, 99#8]
  have hF : Wid Fence.wide := wid_wide
  refine enter (c := _) Try.func15 rfl [] [] [] (by rw [Try.ntmps15]; rfl) (own_rds hO rfl) ?_
  rw [Try.ntmps15]
  refine T_re [] sn ?_
  refine T_he [] [] ⟨by decide, rfl⟩ ?_
  refine T_seq ?_
  refine T_reg hF rfl ?_
  refine L_op rfl (op_pr (pr_assign rfl rfl) rfl rfl ?_)
  refine L_nil ?_
  refine T_re [] sn ?_
  refine T_he [] [] ⟨by decide, rfl⟩ ?_
  refine T_seq ?_
  refine T_reg hF rfl ?_
  refine L_op rfl (op_bslice (e := 5) (zs := [(b8 (97#8)), (b8 (98#8)), (b8 (99#8))]) (qs := [(0, (b8 (97#8))), (1, (b8 (98#8))), (2, (b8 (99#8)))]) (fun _ => by kernel_rfl) rfl rfl rfl rfl (fun g1 => ?_))
  refine L_op rfl (op_mark (zs := [(b8 (97#8)), (b8 (98#8)), (b8 (99#8))]) 0 rfl Try.underlying24 Try.underlying5 sd sd rfl rfl rfl rfl rfl rfl ?_)
  refine L_op rfl (op_bslice (e := 24) (zs := [(.slice (some ⟨g1, 0, none⟩) 3 3)]) (qs := [(0, (.slice (some ⟨g1, 0, none⟩) 3 3))]) (fun _ => by kernel_rfl) rfl rfl rfl rfl (fun g2 => ?_))
  refine L_op rfl (op_call0 (vs := [(.slice (some ⟨g2, 0, none⟩) 1 1)]) (cap := []) (fun w hw => sum_f ([(Pt.mk (some ⟨g1, 0, none⟩) 3 3 [97#8, 98#8, 99#8])]) (some ⟨g2, 0, none⟩) 1 1 w (hok_cons ((src_full (z := 1) 0 rfl rfl sd sd) w hw) (hok_cons (all_cons ((src_old 1 rfl) w hw) (all_nil w)) (hok_nil w))) sd (by first | assumption | omega | (simp [catp_cons, catp_nil]; done) | (simp [catp_cons, catp_nil]; omega)) sd) (enters_of Try.func17 (by kernel_rfl) rfl) rfl rfl rfl rfl rfl (fun t3 q4 => ?_))
  refine T_slot 5 (.agg ((shasum (catp ([(Pt.mk (some ⟨g1, 0, none⟩) 3 3 [97#8, 98#8, 99#8])]))).map b8).toArray) (.agg ((shasum [97#8, 98#8, 99#8]).map b8).toArray) rfl (by simp [catp]) ?_
  refine L_op rfl (op_alloc (z := .agg ((List.replicate 32 0#8).map b8).toArray) (zs := ((List.replicate 32 0#8).map b8)) (by kernel_rfl) rfl rfl rfl rfl (fun g5 => ?_))
  refine L_op rfl (op_store (vs := ((shasum [97#8, 98#8, 99#8]).map b8)) (cs' := ((shasum [97#8, 98#8, 99#8]).map b8)) 0 rfl rfl (by rw [show (((shasum [97#8, 98#8, 99#8]).map b8)).length = 32 from sd]; kernel_rfl) (all8_one _) (by have h1 : (((List.replicate 32 0#8).map b8)).length = 32 := (by kernel_rfl); have h2 : (((shasum [97#8, 98#8, 99#8]).map b8)).length = 32 := sd; omega) (splice_all (Eq.trans (b := 32) (by kernel_rfl) (Eq.symm sd))) rfl rfl rfl rfl ?_)
  refine L_nil ?_
  refine T_re [(1, (.pointer (some ⟨g5, 0, none⟩)))] (sc rfl sn) ?_
  refine T_he [0, 1, 2] [.blk g5 26 ((shasum [97#8, 98#8, 99#8]).map b8), .blk g2 24 [(.slice (some ⟨g1, 0, none⟩) 3 3)], .old (some ⟨g1, 0, none⟩) 1 3 3 [(b8 (97#8)), (b8 (98#8)), (b8 (99#8))]] ⟨by decide, rfl⟩ ?_
  refine T_seq ?_
  refine T_reg hF rfl ?_
  refine L_op rfl (op_pr (pr_ixa (j := 0) (m' := 0) sd (by omega) Try.underlying26 (z := 1) (by kernel_rfl) rfl rfl rfl) rfl rfl ?_)
  refine L_op rfl (op_ld (ld_blk 0 rfl (get8 sd) Try.underlying5 rfl rfl rfl) rfl rfl ?_)
  refine L_op rfl (op_pr (pr_cmp (bo := .eql) (n8_beq (ath (shasum [97#8, 98#8, 99#8]) 0) (186#8)) rfl rfl rfl rfl) rfl rfl ?_)
  refine L_op rfl (op_pr (pr_move rfl rfl) rfl rfl ?_)
  refine T_slot 9 (.bool ((ath (shasum [97#8, 98#8, 99#8]) 0) == 186#8)) (.bool true) rfl (congrArg _ (by rw [abc_at (0, 186#8) (by simp)]; rfl)) ?_
  refine L_op rfl (op_pr (pr_ixa (j := 1) (m' := 1) sd (by omega) Try.underlying26 (z := 1) (by kernel_rfl) rfl rfl rfl) rfl rfl ?_)
  refine L_op rfl (op_ld (ld_blk 0 rfl (get8 sd) Try.underlying5 rfl rfl rfl) rfl rfl ?_)
  refine L_op rfl (op_pr (pr_cmp (bo := .eql) (n8_beq (ath (shasum [97#8, 98#8, 99#8]) 1) (120#8)) rfl rfl rfl rfl) rfl rfl ?_)
  refine L_op rfl (op_pr (pr_pick_t rfl rfl rfl) rfl rfl ?_)
  refine L_op rfl (op_pr (pr_move rfl rfl) rfl rfl ?_)
  refine T_slot 14 (.bool ((ath (shasum [97#8, 98#8, 99#8]) 1) == 120#8)) (.bool true) rfl (congrArg _ (by rw [abc_at (1, 120#8) (by simp)]; rfl)) ?_
  refine L_op rfl (op_pr (pr_ixa (j := 31) (m' := 31) sd (by omega) Try.underlying26 (z := 1) (by kernel_rfl) rfl rfl rfl) rfl rfl ?_)
  refine L_op rfl (op_ld (ld_blk 0 rfl (get8 sd) Try.underlying5 rfl rfl rfl) rfl rfl ?_)
  refine L_op rfl (op_pr (pr_cmp (bo := .eql) (n8_beq (ath (shasum [97#8, 98#8, 99#8]) 31) (173#8)) rfl rfl rfl rfl) rfl rfl ?_)
  refine L_op rfl (op_pr (pr_pick_t rfl rfl rfl) rfl rfl ?_)
  refine L_op rfl (op_pr (pr_assign rfl rfl) rfl rfl ?_)
  refine L_nil ?_
  refine T_re [(0, (.bool ((ath (shasum [97#8, 98#8, 99#8]) 31) == 173#8)))] (sc rfl sn) ?_
  refine T_he [0, 1, 2] [.blk g5 26 ((shasum [97#8, 98#8, 99#8]).map b8), .blk g2 24 [(.slice (some ⟨g1, 0, none⟩) 3 3)], .old (some ⟨g1, 0, none⟩) 1 3 3 [(b8 (97#8)), (b8 (98#8)), (b8 (99#8))]] ⟨by decide, rfl⟩ ?_
  refine T_ret ?_
  refine T_slot 0 (.bool ((ath (shasum [97#8, 98#8, 99#8]) 31) == 173#8)) (.bool true) rfl (by rw [abc_at (31, 173#8) (by simp)]; rfl) ?_
  exact T_fin () (by first | trivial | omega | (simp; done)) (res1 rfl rfl) [] ⟨by decide, rfl⟩ rfl
set_option maxHeartbeats 4000000 in
theorem rpad_f (n : Nat) (w : World) (hO : HOK [] w) (hn : n ≤ 1100000000000) : Calls Try.prog 24 [(.int .i64 ((n : Nat) : Int))].toArray w (Ret (T := Option Addr × Nat) [] w (fun ⟨B, d⟩ => True) (fun ⟨B, d⟩ => (.slice B (plen n) d)) (fun ⟨B, d⟩ => [.row (.slice B (plen n) d) 5 1 (plen n) ((padb n).map b8)])) := by
  have hF : Wid Fence.wide := wid_wide
  refine enter (c := _) Try.func24 rfl [] [(.int .i64 ((n : Nat) : Int))] [] (by rw [Try.ntmps24]; rfl) (own_rds hO rfl) ?_
  rw [Try.ntmps24]
  refine T_re [(0, (.int .i64 ((n : Nat) : Int)))] (sc rfl sn) ?_
  refine T_he [] [] ⟨by decide, rfl⟩ ?_
  refine T_seq ?_
  refine T_reg hF rfl ?_
  refine L_op rfl (op_pr (pr_assign rfl rfl) rfl rfl ?_)
  refine L_nil ?_
  refine T_re [(0, (.int .i64 ((n : Nat) : Int)))] (sc rfl sn) ?_
  refine T_he [] [] ⟨by decide, rfl⟩ ?_
  refine T_seq ?_
  refine T_reg hF rfl ?_
  refine L_op rfl (op_pr (pr_move rfl rfl) rfl rfl ?_)
  refine L_op rfl (op_pr ((pr_as (pr_max rfl rfl rfl) (nmax (k := .i64) (a := 0) (b := n)))) rfl rfl ?_)
  refine T_slot 7 (.int .i64 ((max 0 n : Nat) : Int)) (.int .i64 ((n : Nat) : Int)) rfl (by simp) ?_
  refine L_op rfl (op_pr (pr_assign rfl rfl) rfl rfl ?_)
  refine L_nil ?_
  refine T_re [(0, (.int .i64 ((n : Nat) : Int)))] (sc rfl sn) ?_
  refine T_he [] [] ⟨by decide, rfl⟩ ?_
  refine T_seq ?_
  refine T_reg hF rfl ?_
  refine L_op rfl (op_bslice (e := 5) (zs := [(b8 (128#8))]) (qs := [(0, (b8 (128#8)))]) (fun _ => by kernel_rfl) rfl rfl rfl rfl (fun g1 => ?_))
  refine L_op rfl (op_pr (pr_assign rfl rfl) rfl rfl ?_)
  refine L_nil ?_
  refine T_re [(0, (.int .i64 ((n : Nat) : Int))), (3, (.slice (some ⟨g1, 0, none⟩) 1 1))] (sc rfl (sc rfl sn)) ?_
  refine T_he [0] [.blk g1 5 [(b8 (128#8))]] ⟨by decide, rfl⟩ ?_
  refine T_seq ?_
  refine T_block ?_
  refine T_slot 3 (.slice (some ⟨g1, 0, none⟩) 1 1) (.slice (some ⟨g1, 0, none⟩) (1 + 0) 1) rfl (by first | rfl | (congr 2; omega) | (simp; omega)) ?_
  refine T_rowb 0 (zs := ((0x80#8 :: List.replicate 0 0#8).map b8)) 1 (1 + 0) 1 rfl sd sd rfl (rfl) ?_
  refine T_loop (T := Nat × Option Addr × Nat) (fun ⟨k, A1, c1⟩ => k ≤ (119 - n % 64) % 64) (fun ⟨k, A1, c1⟩ => [(0, (.int .i64 ((n : Nat) : Int))), (3, (.slice A1 (1 + k) c1))]) (fun ⟨k, A1, c1⟩ => [.row (.slice A1 (1 + k) c1) 5 1 (1 + k) ((0x80#8 :: List.replicate k 0#8).map b8)]) (fun ⟨k, A1, c1⟩ => (119 - n % 64) % 64 - k) (0, some ⟨g1, 0, none⟩, 1) (by first | trivial | ((try dsimp only); first | omega | (refine ⟨?_, ?_⟩ <;> omega) | (refine ⟨?_, ?_, ?_⟩ <;> omega) | (simp; done) | (simp; omega))) (sc rfl (sc rfl sn)) [0] ⟨by decide, rfl⟩ ?_
  rintro ⟨k, A1, c1⟩ hp
  have hp : k ≤ (119 - n % 64) % 64 := hp
  refine T_re [(0, (.int .i64 ((n : Nat) : Int))), (3, (.slice A1 (1 + k) c1))] (sc rfl (sc rfl sn)) ?_
  refine T_he [0] [.row (.slice A1 (1 + k) c1) 5 1 (1 + k) ((0x80#8 :: List.replicate k 0#8).map b8)] ⟨by decide, rfl⟩ ?_
  refine T_seq ?_
  refine T_seq ?_
  refine T_reg hF rfl ?_
  refine L_op rfl (op_pr (pr_move rfl rfl) rfl rfl ?_)
  refine L_op rfl (op_pr (pr_move rfl rfl) rfl rfl ?_)
  refine L_op rfl (op_pr (pr_len_sl Try.underlying24 rfl rfl) rfl rfl ?_)
  refine L_op rfl (op_pr (pr_add (na_i64 (a := n) (b := 1 + k) sd) rfl rfl rfl) rfl rfl ?_)
  refine L_op rfl (op_pr (pr_rem (a := n + (1 + k)) (b := 64) sd rfl rfl rfl) rfl rfl ?_)
  refine L_op rfl (op_pr (pr_cmp (bo := .neq) (nc_ne (a := (n + (1 + k)) % 64) (b := 56)) rfl rfl rfl rfl) rfl rfl ?_)
  refine L_nil ?_
  refine T_re [(0, (.int .i64 ((n : Nat) : Int))), (3, (.slice A1 (1 + k) c1)), (14, (.bool ((n + (1 + k)) % 64 != 56)))] (sc rfl (sc rfl (sc rfl sn))) ?_
  refine T_he [0] [.row (.slice A1 (1 + k) c1) 5 1 (1 + k) ((0x80#8 :: List.replicate k 0#8).map b8)] ⟨by decide, rfl⟩ ?_
  refine T_cond ((n + (1 + k)) % 64 != 56) rfl (fun hc_2 => ?_) (fun hc_2 => ?_)
  · skip
    have hc_2 : ¬ (n + (1 + k)) % 64 = 56 := by simpa using hc_2
    refine T_skip ?_
    refine T_block ?_
    refine T_reg hF rfl ?_
    refine L_op rfl (op_pr (pr_move rfl rfl) rfl rfl ?_)
    refine L_op rfl (op_bslice (e := 5) (zs := [(b8 (0#8))]) (qs := [(0, (b8 (0#8)))]) (fun _ => by kernel_rfl) rfl rfl rfl rfl (fun g3 => ?_))
    refine L_op rfl (op_append (z := (b8 (0#8))) (size := 1) (bytes := 1) 1 rfl Try.underlying24 (by kernel_rfl) (by kernel_rfl) (by decide) (src_full (z := 1) 0 rfl rfl sd sd) (by simp [Value.oneCell']) sd sd rfl rfl rfl rfl rfl (fun A4 C5 => ?_))
    refine T_as 0 (.row (.slice A4 (1 + k + 1) C5) 5 1 (1 + k + 1) (((0x80#8 :: List.replicate k 0#8).map b8) ++ [(b8 (0#8))])) (.row (.slice A4 (1 + k + 1) C5) 5 1 (1 + k + 1) (((0x80#8 :: List.replicate k 0#8) ++ [0#8]).map b8)) rfl (by first | rfl | (congr 1; simp; done) | (simp only [List.map_append]; rfl) | (rw [List.map_append]; rfl)) ?_
    refine L_op rfl (op_pr (pr_assign rfl rfl) rfl rfl ?_)
    refine L_nil ?_
    refine T_re [(0, (.int .i64 ((n : Nat) : Int))), (3, (.slice A4 (1 + k + 1) C5))] (sc rfl (sc rfl sn)) ?_
    refine T_he [0, 1] [.row (.slice A4 (1 + k + 1) C5) 5 1 (1 + k + 1) (((0x80#8 :: List.replicate k 0#8) ++ [0#8]).map b8), .blk g3 5 [(b8 (0#8))]] ⟨by decide, rfl⟩ ?_
    refine T_slot 3 (.slice A4 (1 + k + 1) C5) (.slice A4 (1 + (k + 1)) C5) rfl (by congr 1) ?_
    refine T_as 0 (.row (.slice A4 (1 + k + 1) C5) 5 1 (1 + k + 1) (((0x80#8 :: List.replicate k 0#8) ++ [0#8]).map b8)) (.row (.slice A4 (1 + (k + 1)) C5) 5 1 (1 + (k + 1)) ((0x80#8 :: List.replicate (k + 1) 0#8).map b8)) rfl (by simp [List.replicate_succ', Nat.add_assoc]) ?_
    exact T_again (k + 1, A4, C5) (by first | trivial | ((try dsimp only); first | omega | (refine ⟨?_, ?_⟩ <;> omega) | (refine ⟨?_, ?_, ?_⟩ <;> omega) | (simp; done) | (simp; omega))) (by first | trivial | ((try dsimp only); first | omega | (refine ⟨?_, ?_⟩ <;> omega) | (refine ⟨?_, ?_, ?_⟩ <;> omega) | (simp; done) | (simp; omega))) (sc rfl (sc rfl sn)) [0] ⟨by decide, rfl⟩
  · skip
    have hc_2 : (n + (1 + k)) % 64 = 56 := by simpa using hc_2
    refine T_exit rfl ?_
    obtain rfl : ((119 - n % 64) % 64) = k := by omega
    refine T_seq ?_
    refine T_reg hF rfl ?_
    refine L_op rfl (op_pr (pr_move rfl rfl) rfl rfl ?_)
    refine L_op rfl (op_pr (pr_cv (nw64 n) Try.underlying3 Try.underlying62 rfl rfl) rfl rfl ?_)
    refine L_op rfl (op_pr (pr_mul (mul64 _ (8#64)) rfl rfl rfl) rfl rfl ?_)
    refine L_op rfl (op_pr (pr_assign rfl rfl) rfl rfl ?_)
    refine L_nil ?_
    refine T_re [(3, (.slice A1 (1 + ((119 - n % 64) % 64)) c1)), (4, (b64 ((BitVec.ofNat 64 n) * 8#64)))] (sc rfl (sc rfl sn)) ?_
    refine T_he [0] [.row (.slice A1 (1 + ((119 - n % 64) % 64)) c1) 5 1 (1 + ((119 - n % 64) % 64)) ((0x80#8 :: List.replicate ((119 - n % 64) % 64) 0#8).map b8)] ⟨by decide, rfl⟩ ?_
    refine T_seq ?_
    refine T_seq ?_
    refine T_reg hF rfl ?_
    refine L_op rfl (op_pr (pr_assign rfl rfl) rfl rfl ?_)
    refine L_nil ?_
    refine T_re [(3, (.slice A1 (1 + ((119 - n % 64) % 64)) c1)), (4, (b64 ((BitVec.ofNat 64 n) * 8#64))), (5, (.int .i64 ((7 : Nat) : Int)))] (sc rfl (sc rfl (sc rfl sn))) ?_
    refine T_he [0] [.row (.slice A1 (1 + ((119 - n % 64) % 64)) c1) 5 1 (1 + ((119 - n % 64) % 64)) ((0x80#8 :: List.replicate ((119 - n % 64) % 64) 0#8).map b8)] ⟨by decide, rfl⟩ ?_
    refine T_block ?_
    refine T_slot 3 (.slice A1 (1 + ((119 - n % 64) % 64)) c1) (.slice A1 (1 + (119 - n % 64) % 64 + 0) c1) rfl (by congr 1) ?_
    refine T_slot 5 (.int .i64 ((7 : Nat) : Int)) (.int .i64 (7 - (0 : Int))) rfl (by congr 1) ?_
    refine T_as 0 (.row (.slice A1 (1 + ((119 - n % 64) % 64)) c1) 5 1 (1 + ((119 - n % 64) % 64)) ((0x80#8 :: List.replicate ((119 - n % 64) % 64) 0#8).map b8)) (.row (.slice A1 (1 + (119 - n % 64) % 64 + 0) c1) 5 1 (1 + (119 - n % 64) % 64 + 0) ((0x80#8 :: (List.replicate ((119 - n % 64) % 64) 0#8 ++ highb (BitVec.ofNat 64 n * 8#64) 8 0)).map b8)) rfl (by simp [highb]) ?_
    refine T_loop (T := Nat × Option Addr × Nat) (fun ⟨k, A2, c2⟩ => k ≤ 8) (fun ⟨k, A2, c2⟩ => [(3, (.slice A2 (1 + (119 - n % 64) % 64 + k) c2)), (4, (b64 ((BitVec.ofNat 64 n) * 8#64))), (5, (.int .i64 (7 - (k : Int))))]) (fun ⟨k, A2, c2⟩ => [.row (.slice A2 (1 + (119 - n % 64) % 64 + k) c2) 5 1 (1 + (119 - n % 64) % 64 + k) ((0x80#8 :: (List.replicate ((119 - n % 64) % 64) 0#8 ++ highb (BitVec.ofNat 64 n * 8#64) 8 k)).map b8)]) (fun ⟨k, A2, c2⟩ => 8 - k) (0, A1, c1) (by first | trivial | ((try dsimp only); first | omega | (refine ⟨?_, ?_⟩ <;> omega) | (refine ⟨?_, ?_, ?_⟩ <;> omega) | (simp; done) | (simp; omega))) (sc rfl (sc rfl (sc rfl sn))) [0] ⟨by decide, rfl⟩ ?_
    rintro ⟨k, A2, c2⟩ hp
    have hp : k ≤ 8 := hp
    refine T_re [(3, (.slice A2 (1 + (119 - n % 64) % 64 + k) c2)), (4, (b64 ((BitVec.ofNat 64 n) * 8#64))), (5, (.int .i64 (7 - (k : Int))))] (sc rfl (sc rfl (sc rfl sn))) ?_
    refine T_he [0] [.row (.slice A2 (1 + (119 - n % 64) % 64 + k) c2) 5 1 (1 + (119 - n % 64) % 64 + k) ((0x80#8 :: (List.replicate ((119 - n % 64) % 64) 0#8 ++ highb (BitVec.ofNat 64 n * 8#64) 8 k)).map b8)] ⟨by decide, rfl⟩ ?_
    refine T_seq ?_
    refine T_seq ?_
    refine T_reg hF rfl ?_
    refine L_op rfl (op_pr (pr_move rfl rfl) rfl rfl ?_)
    refine L_op rfl (op_pr (pr_cmp (bo := .geq) (k := .i64) (a := (7 - (k : Int))) (b := ((0 : Nat) : Int)) (c := decide (((0 : Nat) : Int) ≤ (7 - (k : Int)))) rfl rfl rfl rfl rfl) rfl rfl ?_)
    refine L_nil ?_
    refine T_re [(3, (.slice A2 (1 + (119 - n % 64) % 64 + k) c2)), (4, (b64 ((BitVec.ofNat 64 n) * 8#64))), (5, (.int .i64 (7 - (k : Int)))), (22, (.bool (decide (((0 : Nat) : Int) ≤ (7 - (k : Int))))))] (sc rfl (sc rfl (sc rfl (sc rfl sn)))) ?_
    refine T_he [0] [.row (.slice A2 (1 + (119 - n % 64) % 64 + k) c2) 5 1 (1 + (119 - n % 64) % 64 + k) ((0x80#8 :: (List.replicate ((119 - n % 64) % 64) 0#8 ++ highb (BitVec.ofNat 64 n * 8#64) 8 k)).map b8)] ⟨by decide, rfl⟩ ?_
    refine T_cond (decide (((0 : Nat) : Int) ≤ (7 - (k : Int)))) rfl (fun hc_6 => ?_) (fun hc_6 => ?_)
    · skip
      have hc_6 := of_decide_eq_true hc_6
      refine T_skip ?_
      refine T_seq ?_
      refine T_block ?_
      refine T_reg hF rfl ?_
      refine L_op rfl (op_pr (pr_move rfl rfl) rfl rfl ?_)
      refine L_op rfl (op_pr (pr_move rfl rfl) rfl rfl ?_)
      refine L_op rfl (op_pr (pr_move rfl rfl) rfl rfl ?_)
      refine T_slot 27 (.int .i64 (7 - (k : Int))) (.int .i64 ((7 - k : Nat) : Int)) rfl (by congr 1; omega) ?_
      refine L_op rfl (op_pr (pr_mul (nm_i64 (a := 8) (b := 7 - k) sd) rfl rfl rfl) rfl rfl ?_)
      refine L_op rfl (op_pr (pr_cv (ni_u64 (a := 8 * (7 - k)) sd) Try.underlying3 Try.underlying37 rfl rfl) rfl rfl ?_)
      refine L_op rfl (op_pr (pr_shift (sh_shr64 ((BitVec.ofNat 64 n) * 8#64) _ (8 * (7 - k))) rfl rfl rfl rfl) rfl rfl ?_)
      refine L_op rfl (op_pr (pr_cv (cv64_8 _) Try.underlying62 Try.underlying5 rfl rfl) rfl rfl ?_)
      refine L_op rfl (op_bslice (e := 5) (zs := [(b8 ((((BitVec.ofNat 64 n) * 8#64) >>> (8 * (7 - k))).setWidth 8))]) (qs := [(0, (b8 ((((BitVec.ofNat 64 n) * 8#64) >>> (8 * (7 - k))).setWidth 8)))]) (fun _ => by kernel_rfl) rfl rfl rfl rfl (fun g7 => ?_))
      refine L_op rfl (op_append (z := (b8 (0#8))) (size := 1) (bytes := 1) 1 rfl Try.underlying24 (by kernel_rfl) (by kernel_rfl) (by decide) (src_full (z := 1) 0 rfl rfl sd sd) (by simp [Value.oneCell']) sd sd rfl rfl rfl rfl rfl (fun A8 C9 => ?_))
      refine T_as 0 (.row (.slice A8 (1 + (119 - n % 64) % 64 + k + 1) C9) 5 1 (1 + (119 - n % 64) % 64 + k + 1) (((0x80#8 :: (List.replicate ((119 - n % 64) % 64) 0#8 ++ highb (BitVec.ofNat 64 n * 8#64) 8 k)).map b8) ++ [(b8 ((((BitVec.ofNat 64 n) * 8#64) >>> (8 * (7 - k))).setWidth 8))])) (.row (.slice A8 (1 + (119 - n % 64) % 64 + k + 1) C9) 5 1 (1 + (119 - n % 64) % 64 + k + 1) (((0x80#8 :: (List.replicate ((119 - n % 64) % 64) 0#8 ++ highb (BitVec.ofNat 64 n * 8#64) 8 k)) ++ [((((BitVec.ofNat 64 n) * 8#64) >>> (8 * (7 - k))).setWidth 8)]).map b8)) rfl (by first | rfl | (congr 1; simp; done) | (simp only [List.map_append]; rfl) | (rw [List.map_append]; rfl)) ?_
      refine L_op rfl (op_pr (pr_assign rfl rfl) rfl rfl ?_)
      refine L_nil ?_
      refine T_re [(3, (.slice A8 (1 + (119 - n % 64) % 64 + k + 1) C9)), (4, (b64 ((BitVec.ofNat 64 n) * 8#64))), (5, (.int .i64 (7 - (k : Int))))] (sc rfl (sc rfl (sc rfl sn))) ?_
      refine T_he [0, 1] [.row (.slice A8 (1 + (119 - n % 64) % 64 + k + 1) C9) 5 1 (1 + (119 - n % 64) % 64 + k + 1) (((0x80#8 :: (List.replicate ((119 - n % 64) % 64) 0#8 ++ highb (BitVec.ofNat 64 n * 8#64) 8 k)) ++ [((((BitVec.ofNat 64 n) * 8#64) >>> (8 * (7 - k))).setWidth 8)]).map b8), .blk g7 5 [(b8 ((((BitVec.ofNat 64 n) * 8#64) >>> (8 * (7 - k))).setWidth 8))]] ⟨by decide, rfl⟩ ?_
      refine T_reg hF rfl ?_
      refine L_op rfl (op_pr (pr_move rfl rfl) rfl rfl ?_)
      refine L_op rfl (op_pr (pr_sub (zw_i64 (z := ((7 - (k : Int)) - ((1 : Nat) : Int))) sd) rfl rfl rfl) rfl rfl ?_)
      refine L_op rfl (op_pr (pr_assign rfl rfl) rfl rfl ?_)
      refine L_nil ?_
      refine T_re [(3, (.slice A8 (1 + (119 - n % 64) % 64 + k + 1) C9)), (4, (b64 ((BitVec.ofNat 64 n) * 8#64))), (5, (.int .i64 ((7 - (k : Int)) - ((1 : Nat) : Int))))] (sc rfl (sc rfl (sc rfl sn))) ?_
      refine T_he [0, 1] [.row (.slice A8 (1 + (119 - n % 64) % 64 + k + 1) C9) 5 1 (1 + (119 - n % 64) % 64 + k + 1) (((0x80#8 :: (List.replicate ((119 - n % 64) % 64) 0#8 ++ highb (BitVec.ofNat 64 n * 8#64) 8 k)) ++ [((((BitVec.ofNat 64 n) * 8#64) >>> (8 * (7 - k))).setWidth 8)]).map b8), .blk g7 5 [(b8 ((((BitVec.ofNat 64 n) * 8#64) >>> (8 * (7 - k))).setWidth 8))]] ⟨by decide, rfl⟩ ?_
      refine T_slot 3 (.slice A8 (1 + (119 - n % 64) % 64 + k + 1) C9) (.slice A8 (1 + (119 - n % 64) % 64 + (k + 1)) C9) rfl (by congr 1 <;> omega) ?_
      refine T_slot 5 (.int .i64 ((7 - (k : Int)) - ((1 : Nat) : Int))) (.int .i64 (7 - ((k + 1) : Int))) rfl (by congr 1 <;> omega) ?_
      refine T_as 0 (.row (.slice A8 (1 + (119 - n % 64) % 64 + k + 1) C9) 5 1 (1 + (119 - n % 64) % 64 + k + 1) (((0x80#8 :: (List.replicate ((119 - n % 64) % 64) 0#8 ++ highb (BitVec.ofNat 64 n * 8#64) 8 k)) ++ [((((BitVec.ofNat 64 n) * 8#64) >>> (8 * (7 - k))).setWidth 8)]).map b8)) (.row (.slice A8 (1 + (119 - n % 64) % 64 + (k + 1)) C9) 5 1 (1 + (119 - n % 64) % 64 + (k + 1)) ((0x80#8 :: (List.replicate ((119 - n % 64) % 64) 0#8 ++ highb (BitVec.ofNat 64 n * 8#64) 8 (k + 1))).map b8)) rfl (by rw [pad_bits n k (by omega)]; simp [Nat.add_assoc]) ?_
      exact T_again (k + 1, A8, C9) (by first | trivial | ((try dsimp only); first | omega | (refine ⟨?_, ?_⟩ <;> omega) | (refine ⟨?_, ?_, ?_⟩ <;> omega) | (simp; done) | (simp; omega))) (by first | trivial | ((try dsimp only); first | omega | (refine ⟨?_, ?_⟩ <;> omega) | (refine ⟨?_, ?_, ?_⟩ <;> omega) | (simp; done) | (simp; omega))) (sc rfl (sc rfl (sc rfl sn))) [0] ⟨by decide, rfl⟩
    · skip
      have hc_6 := of_decide_eq_false hc_6
      refine T_exit rfl ?_
      obtain rfl : 8 = k := by omega
      refine T_seq ?_
      refine T_reg hF rfl ?_
      refine L_op rfl (op_pr (pr_move rfl rfl) rfl rfl ?_)
      refine L_op rfl (op_pr (pr_assign rfl rfl) rfl rfl ?_)
      refine L_nil ?_
      refine T_re [(2, (.slice A2 (1 + (119 - n % 64) % 64 + 8) c2))] (sc rfl sn) ?_
      refine T_he [0] [.row (.slice A2 (1 + (119 - n % 64) % 64 + 8) c2) 5 1 (1 + (119 - n % 64) % 64 + 8) ((0x80#8 :: (List.replicate ((119 - n % 64) % 64) 0#8 ++ highb (BitVec.ofNat 64 n * 8#64) 8 8)).map b8)] ⟨by decide, rfl⟩ ?_
      refine T_ret ?_
      refine T_slot 2 (.slice A2 (1 + (119 - n % 64) % 64 + 8) c2) (.slice A2 (plen n) c2) rfl (by simp [plen]) ?_
      refine T_as 0 (.row (.slice A2 (1 + (119 - n % 64) % 64 + 8) c2) 5 1 (1 + (119 - n % 64) % 64 + 8) ((0x80#8 :: (List.replicate ((119 - n % 64) % 64) 0#8 ++ highb (BitVec.ofNat 64 n * 8#64) 8 8)).map b8)) (.row (.slice A2 (plen n) c2) 5 1 (plen n) ((padb n).map b8)) rfl (by simp [padb, plen]) ?_
      exact T_fin (A2, c2) (by first | trivial | omega | (simp; done)) (res1 rfl rfl) [0] ⟨by decide, rfl⟩ rfl
set_option maxHeartbeats 4000000 in
theorem rpadz_f (z : Int) (w : World) (hO : HOK [] w) (hz : z < 0) : Calls Try.prog 24 [(.int .i64 z)].toArray w (Ret (T := Option Addr × Nat) [] w (fun ⟨B, d⟩ => True) (fun ⟨B, d⟩ => (.slice B (plen 0) d)) (fun ⟨B, d⟩ => [.row (.slice B (plen 0) d) 5 1 (plen 0) ((padb 0).map b8)])) := by
  have hF : Wid Fence.wide := wid_wide
  refine enter (c := _) Try.func24 rfl [] [(.int .i64 z)] [] (by rw [Try.ntmps24]; rfl) (own_rds hO rfl) ?_
  rw [Try.ntmps24]
  refine T_re [(0, (.int .i64 z))] (sc rfl sn) ?_
  refine T_he [] [] ⟨by decide, rfl⟩ ?_
  refine T_seq ?_
  refine T_reg hF rfl ?_
  refine L_op rfl (op_pr (pr_assign rfl rfl) rfl rfl ?_)
  refine L_nil ?_
  refine T_re [(0, (.int .i64 z))] (sc rfl sn) ?_
  refine T_he [] [] ⟨by decide, rfl⟩ ?_
  refine T_seq ?_
  refine T_reg hF rfl ?_
  refine L_op rfl (op_pr (pr_move rfl rfl) rfl rfl ?_)
  refine L_op rfl (op_pr ((pr_as (pr_max rfl rfl rfl) (zmax0' hz))) rfl rfl ?_)
  refine L_op rfl (op_pr (pr_assign rfl rfl) rfl rfl ?_)
  refine L_nil ?_
  refine T_re [(0, (.int .i64 ((0 : Nat) : Int)))] (sc rfl sn) ?_
  refine T_he [] [] ⟨by decide, rfl⟩ ?_
  refine T_seq ?_
  refine T_reg hF rfl ?_
  refine L_op rfl (op_bslice (e := 5) (zs := [(b8 (128#8))]) (qs := [(0, (b8 (128#8)))]) (fun _ => by kernel_rfl) rfl rfl rfl rfl (fun g1 => ?_))
  refine L_op rfl (op_pr (pr_assign rfl rfl) rfl rfl ?_)
  refine L_nil ?_
  refine T_re [(0, (.int .i64 ((0 : Nat) : Int))), (3, (.slice (some ⟨g1, 0, none⟩) 1 1))] (sc rfl (sc rfl sn)) ?_
  refine T_he [0] [.blk g1 5 [(b8 (128#8))]] ⟨by decide, rfl⟩ ?_
  refine T_seq ?_
  refine T_block ?_
  refine T_slot 3 (.slice (some ⟨g1, 0, none⟩) 1 1) (.slice (some ⟨g1, 0, none⟩) (1 + 0) 1) rfl (by first | rfl | (congr 2; omega) | (simp; omega)) ?_
  refine T_rowb 0 (zs := ((0x80#8 :: List.replicate 0 0#8).map b8)) 1 (1 + 0) 1 rfl sd sd rfl (rfl) ?_
  refine T_loop (T := Nat × Option Addr × Nat) (fun ⟨k, A1, c1⟩ => k ≤ (119 - 0 % 64) % 64) (fun ⟨k, A1, c1⟩ => [(0, (.int .i64 ((0 : Nat) : Int))), (3, (.slice A1 (1 + k) c1))]) (fun ⟨k, A1, c1⟩ => [.row (.slice A1 (1 + k) c1) 5 1 (1 + k) ((0x80#8 :: List.replicate k 0#8).map b8)]) (fun ⟨k, A1, c1⟩ => (119 - 0 % 64) % 64 - k) (0, some ⟨g1, 0, none⟩, 1) (by first | trivial | ((try dsimp only); first | omega | (refine ⟨?_, ?_⟩ <;> omega) | (refine ⟨?_, ?_, ?_⟩ <;> omega) | (simp; done) | (simp; omega))) (sc rfl (sc rfl sn)) [0] ⟨by decide, rfl⟩ ?_
  rintro ⟨k, A1, c1⟩ hp
  have hp : k ≤ (119 - 0 % 64) % 64 := hp
  refine T_re [(0, (.int .i64 ((0 : Nat) : Int))), (3, (.slice A1 (1 + k) c1))] (sc rfl (sc rfl sn)) ?_
  refine T_he [0] [.row (.slice A1 (1 + k) c1) 5 1 (1 + k) ((0x80#8 :: List.replicate k 0#8).map b8)] ⟨by decide, rfl⟩ ?_
  refine T_seq ?_
  refine T_seq ?_
  refine T_reg hF rfl ?_
  refine L_op rfl (op_pr (pr_move rfl rfl) rfl rfl ?_)
  refine L_op rfl (op_pr (pr_move rfl rfl) rfl rfl ?_)
  refine L_op rfl (op_pr (pr_len_sl Try.underlying24 rfl rfl) rfl rfl ?_)
  refine L_op rfl (op_pr (pr_add (na_i64 (a := 0) (b := 1 + k) sd) rfl rfl rfl) rfl rfl ?_)
  refine L_op rfl (op_pr (pr_rem (a := 0 + (1 + k)) (b := 64) sd rfl rfl rfl) rfl rfl ?_)
  refine L_op rfl (op_pr (pr_cmp (bo := .neq) (nc_ne (a := (0 + (1 + k)) % 64) (b := 56)) rfl rfl rfl rfl) rfl rfl ?_)
  refine L_nil ?_
  refine T_re [(0, (.int .i64 ((0 : Nat) : Int))), (3, (.slice A1 (1 + k) c1)), (14, (.bool ((0 + (1 + k)) % 64 != 56)))] (sc rfl (sc rfl (sc rfl sn))) ?_
  refine T_he [0] [.row (.slice A1 (1 + k) c1) 5 1 (1 + k) ((0x80#8 :: List.replicate k 0#8).map b8)] ⟨by decide, rfl⟩ ?_
  refine T_cond ((0 + (1 + k)) % 64 != 56) rfl (fun hc_2 => ?_) (fun hc_2 => ?_)
  · skip
    have hc_2 : ¬ (0 + (1 + k)) % 64 = 56 := by simpa using hc_2
    refine T_skip ?_
    refine T_block ?_
    refine T_reg hF rfl ?_
    refine L_op rfl (op_pr (pr_move rfl rfl) rfl rfl ?_)
    refine L_op rfl (op_bslice (e := 5) (zs := [(b8 (0#8))]) (qs := [(0, (b8 (0#8)))]) (fun _ => by kernel_rfl) rfl rfl rfl rfl (fun g3 => ?_))
    refine L_op rfl (op_append (z := (b8 (0#8))) (size := 1) (bytes := 1) 1 rfl Try.underlying24 (by kernel_rfl) (by kernel_rfl) (by decide) (src_full (z := 1) 0 rfl rfl sd sd) (by simp [Value.oneCell']) sd sd rfl rfl rfl rfl rfl (fun A4 C5 => ?_))
    refine T_as 0 (.row (.slice A4 (1 + k + 1) C5) 5 1 (1 + k + 1) (((0x80#8 :: List.replicate k 0#8).map b8) ++ [(b8 (0#8))])) (.row (.slice A4 (1 + k + 1) C5) 5 1 (1 + k + 1) (((0x80#8 :: List.replicate k 0#8) ++ [0#8]).map b8)) rfl (by first | rfl | (congr 1; simp; done) | (simp only [List.map_append]; rfl) | (rw [List.map_append]; rfl)) ?_
    refine L_op rfl (op_pr (pr_assign rfl rfl) rfl rfl ?_)
    refine L_nil ?_
    refine T_re [(0, (.int .i64 ((0 : Nat) : Int))), (3, (.slice A4 (1 + k + 1) C5))] (sc rfl (sc rfl sn)) ?_
    refine T_he [0, 1] [.row (.slice A4 (1 + k + 1) C5) 5 1 (1 + k + 1) (((0x80#8 :: List.replicate k 0#8) ++ [0#8]).map b8), .blk g3 5 [(b8 (0#8))]] ⟨by decide, rfl⟩ ?_
    refine T_slot 3 (.slice A4 (1 + k + 1) C5) (.slice A4 (1 + (k + 1)) C5) rfl (by congr 1) ?_
    refine T_as 0 (.row (.slice A4 (1 + k + 1) C5) 5 1 (1 + k + 1) (((0x80#8 :: List.replicate k 0#8) ++ [0#8]).map b8)) (.row (.slice A4 (1 + (k + 1)) C5) 5 1 (1 + (k + 1)) ((0x80#8 :: List.replicate (k + 1) 0#8).map b8)) rfl (by simp [List.replicate_succ', Nat.add_assoc]) ?_
    exact T_again (k + 1, A4, C5) (by first | trivial | ((try dsimp only); first | omega | (refine ⟨?_, ?_⟩ <;> omega) | (refine ⟨?_, ?_, ?_⟩ <;> omega) | (simp; done) | (simp; omega))) (by first | trivial | ((try dsimp only); first | omega | (refine ⟨?_, ?_⟩ <;> omega) | (refine ⟨?_, ?_, ?_⟩ <;> omega) | (simp; done) | (simp; omega))) (sc rfl (sc rfl sn)) [0] ⟨by decide, rfl⟩
  · skip
    have hc_2 : (0 + (1 + k)) % 64 = 56 := by simpa using hc_2
    refine T_exit rfl ?_
    obtain rfl : ((119 - 0 % 64) % 64) = k := by omega
    refine T_seq ?_
    refine T_reg hF rfl ?_
    refine L_op rfl (op_pr (pr_move rfl rfl) rfl rfl ?_)
    refine L_op rfl (op_pr (pr_cv (nw64 0) Try.underlying3 Try.underlying62 rfl rfl) rfl rfl ?_)
    refine L_op rfl (op_pr (pr_mul (mul64 _ (8#64)) rfl rfl rfl) rfl rfl ?_)
    refine L_op rfl (op_pr (pr_assign rfl rfl) rfl rfl ?_)
    refine L_nil ?_
    refine T_re [(3, (.slice A1 (1 + ((119 - 0 % 64) % 64)) c1)), (4, (b64 ((BitVec.ofNat 64 0) * 8#64)))] (sc rfl (sc rfl sn)) ?_
    refine T_he [0] [.row (.slice A1 (1 + ((119 - 0 % 64) % 64)) c1) 5 1 (1 + ((119 - 0 % 64) % 64)) ((0x80#8 :: List.replicate ((119 - 0 % 64) % 64) 0#8).map b8)] ⟨by decide, rfl⟩ ?_
    refine T_seq ?_
    refine T_seq ?_
    refine T_reg hF rfl ?_
    refine L_op rfl (op_pr (pr_assign rfl rfl) rfl rfl ?_)
    refine L_nil ?_
    refine T_re [(3, (.slice A1 (1 + ((119 - 0 % 64) % 64)) c1)), (4, (b64 ((BitVec.ofNat 64 0) * 8#64))), (5, (.int .i64 ((7 : Nat) : Int)))] (sc rfl (sc rfl (sc rfl sn))) ?_
    refine T_he [0] [.row (.slice A1 (1 + ((119 - 0 % 64) % 64)) c1) 5 1 (1 + ((119 - 0 % 64) % 64)) ((0x80#8 :: List.replicate ((119 - 0 % 64) % 64) 0#8).map b8)] ⟨by decide, rfl⟩ ?_
    refine T_block ?_
    refine T_slot 3 (.slice A1 (1 + ((119 - 0 % 64) % 64)) c1) (.slice A1 (1 + (119 - 0 % 64) % 64 + 0) c1) rfl (by congr 1) ?_
    refine T_slot 5 (.int .i64 ((7 : Nat) : Int)) (.int .i64 (7 - (0 : Int))) rfl (by congr 1) ?_
    refine T_as 0 (.row (.slice A1 (1 + ((119 - 0 % 64) % 64)) c1) 5 1 (1 + ((119 - 0 % 64) % 64)) ((0x80#8 :: List.replicate ((119 - 0 % 64) % 64) 0#8).map b8)) (.row (.slice A1 (1 + (119 - 0 % 64) % 64 + 0) c1) 5 1 (1 + (119 - 0 % 64) % 64 + 0) ((0x80#8 :: (List.replicate ((119 - 0 % 64) % 64) 0#8 ++ highb (BitVec.ofNat 64 0 * 8#64) 8 0)).map b8)) rfl (by simp [highb]) ?_
    refine T_loop (T := Nat × Option Addr × Nat) (fun ⟨k, A2, c2⟩ => k ≤ 8) (fun ⟨k, A2, c2⟩ => [(3, (.slice A2 (1 + (119 - 0 % 64) % 64 + k) c2)), (4, (b64 ((BitVec.ofNat 64 0) * 8#64))), (5, (.int .i64 (7 - (k : Int))))]) (fun ⟨k, A2, c2⟩ => [.row (.slice A2 (1 + (119 - 0 % 64) % 64 + k) c2) 5 1 (1 + (119 - 0 % 64) % 64 + k) ((0x80#8 :: (List.replicate ((119 - 0 % 64) % 64) 0#8 ++ highb (BitVec.ofNat 64 0 * 8#64) 8 k)).map b8)]) (fun ⟨k, A2, c2⟩ => 8 - k) (0, A1, c1) (by first | trivial | ((try dsimp only); first | omega | (refine ⟨?_, ?_⟩ <;> omega) | (refine ⟨?_, ?_, ?_⟩ <;> omega) | (simp; done) | (simp; omega))) (sc rfl (sc rfl (sc rfl sn))) [0] ⟨by decide, rfl⟩ ?_
    rintro ⟨k, A2, c2⟩ hp
    have hp : k ≤ 8 := hp
    refine T_re [(3, (.slice A2 (1 + (119 - 0 % 64) % 64 + k) c2)), (4, (b64 ((BitVec.ofNat 64 0) * 8#64))), (5, (.int .i64 (7 - (k : Int))))] (sc rfl (sc rfl (sc rfl sn))) ?_
    refine T_he [0] [.row (.slice A2 (1 + (119 - 0 % 64) % 64 + k) c2) 5 1 (1 + (119 - 0 % 64) % 64 + k) ((0x80#8 :: (List.replicate ((119 - 0 % 64) % 64) 0#8 ++ highb (BitVec.ofNat 64 0 * 8#64) 8 k)).map b8)] ⟨by decide, rfl⟩ ?_
    refine T_seq ?_
    refine T_seq ?_
    refine T_reg hF rfl ?_
    refine L_op rfl (op_pr (pr_move rfl rfl) rfl rfl ?_)
    refine L_op rfl (op_pr (pr_cmp (bo := .geq) (k := .i64) (a := (7 - (k : Int))) (b := ((0 : Nat) : Int)) (c := decide (((0 : Nat) : Int) ≤ (7 - (k : Int)))) rfl rfl rfl rfl rfl) rfl rfl ?_)
    refine L_nil ?_
    refine T_re [(3, (.slice A2 (1 + (119 - 0 % 64) % 64 + k) c2)), (4, (b64 ((BitVec.ofNat 64 0) * 8#64))), (5, (.int .i64 (7 - (k : Int)))), (22, (.bool (decide (((0 : Nat) : Int) ≤ (7 - (k : Int))))))] (sc rfl (sc rfl (sc rfl (sc rfl sn)))) ?_
    refine T_he [0] [.row (.slice A2 (1 + (119 - 0 % 64) % 64 + k) c2) 5 1 (1 + (119 - 0 % 64) % 64 + k) ((0x80#8 :: (List.replicate ((119 - 0 % 64) % 64) 0#8 ++ highb (BitVec.ofNat 64 0 * 8#64) 8 k)).map b8)] ⟨by decide, rfl⟩ ?_
    refine T_cond (decide (((0 : Nat) : Int) ≤ (7 - (k : Int)))) rfl (fun hc_6 => ?_) (fun hc_6 => ?_)
    · skip
      have hc_6 := of_decide_eq_true hc_6
      refine T_skip ?_
      refine T_seq ?_
      refine T_block ?_
      refine T_reg hF rfl ?_
      refine L_op rfl (op_pr (pr_move rfl rfl) rfl rfl ?_)
      refine L_op rfl (op_pr (pr_move rfl rfl) rfl rfl ?_)
      refine L_op rfl (op_pr (pr_move rfl rfl) rfl rfl ?_)
      refine T_slot 27 (.int .i64 (7 - (k : Int))) (.int .i64 ((7 - k : Nat) : Int)) rfl (by congr 1; omega) ?_
      refine L_op rfl (op_pr (pr_mul (nm_i64 (a := 8) (b := 7 - k) sd) rfl rfl rfl) rfl rfl ?_)
      refine L_op rfl (op_pr (pr_cv (ni_u64 (a := 8 * (7 - k)) sd) Try.underlying3 Try.underlying37 rfl rfl) rfl rfl ?_)
      refine L_op rfl (op_pr (pr_shift (sh_shr64 ((BitVec.ofNat 64 0) * 8#64) _ (8 * (7 - k))) rfl rfl rfl rfl) rfl rfl ?_)
      refine L_op rfl (op_pr (pr_cv (cv64_8 _) Try.underlying62 Try.underlying5 rfl rfl) rfl rfl ?_)
      refine L_op rfl (op_bslice (e := 5) (zs := [(b8 ((((BitVec.ofNat 64 0) * 8#64) >>> (8 * (7 - k))).setWidth 8))]) (qs := [(0, (b8 ((((BitVec.ofNat 64 0) * 8#64) >>> (8 * (7 - k))).setWidth 8)))]) (fun _ => by kernel_rfl) rfl rfl rfl rfl (fun g7 => ?_))
      refine L_op rfl (op_append (z := (b8 (0#8))) (size := 1) (bytes := 1) 1 rfl Try.underlying24 (by kernel_rfl) (by kernel_rfl) (by decide) (src_full (z := 1) 0 rfl rfl sd sd) (by simp [Value.oneCell']) sd sd rfl rfl rfl rfl rfl (fun A8 C9 => ?_))
      refine T_as 0 (.row (.slice A8 (1 + (119 - 0 % 64) % 64 + k + 1) C9) 5 1 (1 + (119 - 0 % 64) % 64 + k + 1) (((0x80#8 :: (List.replicate ((119 - 0 % 64) % 64) 0#8 ++ highb (BitVec.ofNat 64 0 * 8#64) 8 k)).map b8) ++ [(b8 ((((BitVec.ofNat 64 0) * 8#64) >>> (8 * (7 - k))).setWidth 8))])) (.row (.slice A8 (1 + (119 - 0 % 64) % 64 + k + 1) C9) 5 1 (1 + (119 - 0 % 64) % 64 + k + 1) (((0x80#8 :: (List.replicate ((119 - 0 % 64) % 64) 0#8 ++ highb (BitVec.ofNat 64 0 * 8#64) 8 k)) ++ [((((BitVec.ofNat 64 0) * 8#64) >>> (8 * (7 - k))).setWidth 8)]).map b8)) rfl (by first | rfl | (congr 1; simp; done) | (simp only [List.map_append]; rfl) | (rw [List.map_append]; rfl)) ?_
      refine L_op rfl (op_pr (pr_assign rfl rfl) rfl rfl ?_)
      refine L_nil ?_
      refine T_re [(3, (.slice A8 (1 + (119 - 0 % 64) % 64 + k + 1) C9)), (4, (b64 ((BitVec.ofNat 64 0) * 8#64))), (5, (.int .i64 (7 - (k : Int))))] (sc rfl (sc rfl (sc rfl sn))) ?_
      refine T_he [0, 1] [.row (.slice A8 (1 + (119 - 0 % 64) % 64 + k + 1) C9) 5 1 (1 + (119 - 0 % 64) % 64 + k + 1) (((0x80#8 :: (List.replicate ((119 - 0 % 64) % 64) 0#8 ++ highb (BitVec.ofNat 64 0 * 8#64) 8 k)) ++ [((((BitVec.ofNat 64 0) * 8#64) >>> (8 * (7 - k))).setWidth 8)]).map b8), .blk g7 5 [(b8 ((((BitVec.ofNat 64 0) * 8#64) >>> (8 * (7 - k))).setWidth 8))]] ⟨by decide, rfl⟩ ?_
      refine T_reg hF rfl ?_
      refine L_op rfl (op_pr (pr_move rfl rfl) rfl rfl ?_)
      refine L_op rfl (op_pr (pr_sub (zw_i64 (z := ((7 - (k : Int)) - ((1 : Nat) : Int))) sd) rfl rfl rfl) rfl rfl ?_)
      refine L_op rfl (op_pr (pr_assign rfl rfl) rfl rfl ?_)
      refine L_nil ?_
      refine T_re [(3, (.slice A8 (1 + (119 - 0 % 64) % 64 + k + 1) C9)), (4, (b64 ((BitVec.ofNat 64 0) * 8#64))), (5, (.int .i64 ((7 - (k : Int)) - ((1 : Nat) : Int))))] (sc rfl (sc rfl (sc rfl sn))) ?_
      refine T_he [0, 1] [.row (.slice A8 (1 + (119 - 0 % 64) % 64 + k + 1) C9) 5 1 (1 + (119 - 0 % 64) % 64 + k + 1) (((0x80#8 :: (List.replicate ((119 - 0 % 64) % 64) 0#8 ++ highb (BitVec.ofNat 64 0 * 8#64) 8 k)) ++ [((((BitVec.ofNat 64 0) * 8#64) >>> (8 * (7 - k))).setWidth 8)]).map b8), .blk g7 5 [(b8 ((((BitVec.ofNat 64 0) * 8#64) >>> (8 * (7 - k))).setWidth 8))]] ⟨by decide, rfl⟩ ?_
      refine T_slot 3 (.slice A8 (1 + (119 - 0 % 64) % 64 + k + 1) C9) (.slice A8 (1 + (119 - 0 % 64) % 64 + (k + 1)) C9) rfl (by congr 1 <;> omega) ?_
      refine T_slot 5 (.int .i64 ((7 - (k : Int)) - ((1 : Nat) : Int))) (.int .i64 (7 - ((k + 1) : Int))) rfl (by congr 1 <;> omega) ?_
      refine T_as 0 (.row (.slice A8 (1 + (119 - 0 % 64) % 64 + k + 1) C9) 5 1 (1 + (119 - 0 % 64) % 64 + k + 1) (((0x80#8 :: (List.replicate ((119 - 0 % 64) % 64) 0#8 ++ highb (BitVec.ofNat 64 0 * 8#64) 8 k)) ++ [((((BitVec.ofNat 64 0) * 8#64) >>> (8 * (7 - k))).setWidth 8)]).map b8)) (.row (.slice A8 (1 + (119 - 0 % 64) % 64 + (k + 1)) C9) 5 1 (1 + (119 - 0 % 64) % 64 + (k + 1)) ((0x80#8 :: (List.replicate ((119 - 0 % 64) % 64) 0#8 ++ highb (BitVec.ofNat 64 0 * 8#64) 8 (k + 1))).map b8)) rfl (by rw [pad_bits 0 k (by omega)]; simp [Nat.add_assoc]) ?_
      exact T_again (k + 1, A8, C9) (by first | trivial | ((try dsimp only); first | omega | (refine ⟨?_, ?_⟩ <;> omega) | (refine ⟨?_, ?_, ?_⟩ <;> omega) | (simp; done) | (simp; omega))) (by first | trivial | ((try dsimp only); first | omega | (refine ⟨?_, ?_⟩ <;> omega) | (refine ⟨?_, ?_, ?_⟩ <;> omega) | (simp; done) | (simp; omega))) (sc rfl (sc rfl (sc rfl sn))) [0] ⟨by decide, rfl⟩
    · skip
      have hc_6 := of_decide_eq_false hc_6
      refine T_exit rfl ?_
      obtain rfl : 8 = k := by omega
      refine T_seq ?_
      refine T_reg hF rfl ?_
      refine L_op rfl (op_pr (pr_move rfl rfl) rfl rfl ?_)
      refine L_op rfl (op_pr (pr_assign rfl rfl) rfl rfl ?_)
      refine L_nil ?_
      refine T_re [(2, (.slice A2 (1 + (119 - 0 % 64) % 64 + 8) c2))] (sc rfl sn) ?_
      refine T_he [0] [.row (.slice A2 (1 + (119 - 0 % 64) % 64 + 8) c2) 5 1 (1 + (119 - 0 % 64) % 64 + 8) ((0x80#8 :: (List.replicate ((119 - 0 % 64) % 64) 0#8 ++ highb (BitVec.ofNat 64 0 * 8#64) 8 8)).map b8)] ⟨by decide, rfl⟩ ?_
      refine T_ret ?_
      refine T_slot 2 (.slice A2 (1 + (119 - 0 % 64) % 64 + 8) c2) (.slice A2 (plen 0) c2) rfl (by simp [plen]) ?_
      refine T_as 0 (.row (.slice A2 (1 + (119 - 0 % 64) % 64 + 8) c2) 5 1 (1 + (119 - 0 % 64) % 64 + 8) ((0x80#8 :: (List.replicate ((119 - 0 % 64) % 64) 0#8 ++ highb (BitVec.ofNat 64 0 * 8#64) 8 8)).map b8)) (.row (.slice A2 (plen 0) c2) 5 1 (plen 0) ((padb 0).map b8)) rfl (by simp [padb, plen]) ?_
      exact T_fin (A2, c2) (by first | trivial | omega | (simp; done)) (res1 rfl rfl) [0] ⟨by decide, rfl⟩ rfl
set_option maxHeartbeats 4000000 in
theorem rsum_f (xs : List (BitVec 8)) (A : Option Addr) (n : Nat) (c : Nat) (w : World) (hO : HOK [.rd A 1 n c (xs.map b8)] w) (hx : xs.length = n) (hn : n ≤ 1000000000) : Calls Try.prog 18 [(.slice A n c)].toArray w (Ret (T := Unit) [] w (fun _ => True) (fun _ => (.agg ((shasum xs).map b8).toArray)) (fun _ => [])) := by
  have hkl : shaK.length = 64 := shaK_len
  have hpl : plen n ≤ 72 := plen_le _
  have hpm := plen_mod n
  have hml : (shamsg xs).length = n + plen n := by rw [shamsg_len, hx]
  have hpbl := padb_len n
  have hsl := shasum_len xs
  have hHl := shaH_len
  have hstl := fun k => hst_len (shamsg xs) k
  have hms : xs ++ padb n = shamsg xs := by rw [← hx, shamsg_def]
  have hso : shaout (hst (shamsg xs) ((n + plen n + 64 - 1) / 64)) 8 = shasum xs := by rw [shasum_def, hx]
  have hF : Wid Fence.wide := wid_wide
  refine enter (c := _) Try.func18 rfl [] [(.slice A n c)] [.rd A 1 n c (xs.map b8)] (by rw [Try.ntmps18]; rfl) (own_rds hO rfl) ?_
  rw [Try.ntmps18]
  refine T_re [(0, (.slice A n c))] (sc rfl sn) ?_
  refine T_he [0] [.rd A 1 n c (xs.map b8)] ⟨by decide, rfl⟩ ?_
  refine T_seq ?_
  refine T_reg hF rfl ?_
  refine L_op rfl (op_alloc (z := .agg ((List.replicate 32 0#8).map b8).toArray) (zs := ((List.replicate 32 0#8).map b8)) (by kernel_rfl) rfl rfl rfl rfl (fun g1 => ?_))
  refine L_nil ?_
  refine T_re [(0, (.slice A n c)), (2, (.pointer (some ⟨g1, 0, none⟩)))] (sc rfl (sc rfl sn)) ?_
  refine T_he [0, 1] [.blk g1 26 ((List.replicate 32 0#8).map b8), .rd A 1 n c (xs.map b8)] ⟨by decide, rfl⟩ ?_
  refine T_seq ?_
  refine T_reg hF rfl ?_
  refine L_op rfl (op_call0 (vs := []) (cap := []) (fun w hw => rwords_f  w (hok_nil w) ) (enters_of Try.func22 (by kernel_rfl) rfl) rfl rfl rfl rfl rfl (fun t2 q3 => ?_))
  refine L_op rfl (op_alloc (z := .agg ((List.replicate 64 0#32).map b32).toArray) (zs := ((List.replicate 64 0#32).map b32)) (by kernel_rfl) rfl rfl rfl rfl (fun g4 => ?_))
  refine L_op rfl (op_store (vs := (shaK.map b32)) (cs' := (shaK.map b32)) 0 rfl rfl (by rw [show ((shaK.map b32)).length = 64 from sd]; kernel_rfl) (all32_one _) (by have h1 : (((List.replicate 64 0#32).map b32)).length = 64 := (by kernel_rfl); have h2 : ((shaK.map b32)).length = 64 := sd; omega) (splice_all (Eq.trans (b := 64) (by kernel_rfl) (Eq.symm sd))) rfl rfl rfl rfl ?_)
  refine L_nil ?_
  refine T_re [(0, (.slice A n c)), (2, (.pointer (some ⟨g1, 0, none⟩))), (3, (.pointer (some ⟨g4, 0, none⟩)))] (sc rfl (sc rfl (sc rfl sn))) ?_
  refine T_he [0, 1, 2] [.blk g4 33 (shaK.map b32), .blk g1 26 ((List.replicate 32 0#8).map b8), .rd A 1 n c (xs.map b8)] ⟨by decide, rfl⟩ ?_
  refine T_seq ?_
  refine T_reg hF rfl ?_
  refine L_op rfl (op_pr (pr_build (qs := [(0, (b32 (1779033703#32))), (1, (b32 (3144134277#32))), (2, (b32 (1013904242#32))), (3, (b32 (2773480762#32))), (4, (b32 (1359893119#32))), (5, (b32 (2600822924#32))), (6, (b32 (528734635#32))), (7, (b32 (1541459225#32)))]) (v := .agg [(b32 (1779033703#32)), (b32 (3144134277#32)), (b32 (1013904242#32)), (b32 (2773480762#32)), (b32 (1359893119#32)), (b32 (2600822924#32)), (b32 (528734635#32)), (b32 (1541459225#32))].toArray) (fun _ => by kernel_rfl) rfl rfl) rfl rfl ?_)
  refine L_op rfl (op_alloc (z := .agg [(b32 (0#32)), (b32 (0#32)), (b32 (0#32)), (b32 (0#32)), (b32 (0#32)), (b32 (0#32)), (b32 (0#32)), (b32 (0#32))].toArray) (zs := [(b32 (0#32)), (b32 (0#32)), (b32 (0#32)), (b32 (0#32)), (b32 (0#32)), (b32 (0#32)), (b32 (0#32)), (b32 (0#32))]) (by kernel_rfl) rfl rfl rfl rfl (fun g5 => ?_))
  refine L_op rfl (op_store (vs := [(b32 (1779033703#32)), (b32 (3144134277#32)), (b32 (1013904242#32)), (b32 (2773480762#32)), (b32 (1359893119#32)), (b32 (2600822924#32)), (b32 (528734635#32)), (b32 (1541459225#32))]) (cs' := [(b32 (1779033703#32)), (b32 (3144134277#32)), (b32 (1013904242#32)), (b32 (2773480762#32)), (b32 (1359893119#32)), (b32 (2600822924#32)), (b32 (528734635#32)), (b32 (1541459225#32))]) 0 rfl rfl (by kernel_rfl) (by simp [Value.oneCell']) (by have h1 : ([(b32 (0#32)), (b32 (0#32)), (b32 (0#32)), (b32 (0#32)), (b32 (0#32)), (b32 (0#32)), (b32 (0#32)), (b32 (0#32))]).length = 8 := (by kernel_rfl); have h2 : ([(b32 (1779033703#32)), (b32 (3144134277#32)), (b32 (1013904242#32)), (b32 (2773480762#32)), (b32 (1359893119#32)), (b32 (2600822924#32)), (b32 (528734635#32)), (b32 (1541459225#32))]).length = 8 := (by kernel_rfl); omega) (splice_all (Eq.trans (b := 8) (by kernel_rfl) (Eq.symm (by kernel_rfl)))) rfl rfl rfl rfl ?_)
  refine L_nil ?_
  refine T_re [(0, (.slice A n c)), (2, (.pointer (some ⟨g1, 0, none⟩))), (3, (.pointer (some ⟨g4, 0, none⟩))), (4, (.pointer (some ⟨g5, 0, none⟩)))] (sc rfl (sc rfl (sc rfl (sc rfl sn)))) ?_
  refine T_he [0, 1, 2, 3] [.blk g5 55 [(b32 (1779033703#32)), (b32 (3144134277#32)), (b32 (1013904242#32)), (b32 (2773480762#32)), (b32 (1359893119#32)), (b32 (2600822924#32)), (b32 (528734635#32)), (b32 (1541459225#32))], .blk g4 33 (shaK.map b32), .blk g1 26 ((List.replicate 32 0#8).map b8), .rd A 1 n c (xs.map b8)] ⟨by decide, rfl⟩ ?_
  refine T_seq ?_
  refine T_reg hF rfl ?_
  refine L_op rfl (op_pr (pr_move rfl rfl) rfl rfl ?_)
  refine T_nilrow 5 1 ?_
  refine L_op rfl (op_append (z := (b8 (0#8))) (size := 1) (bytes := 1) 0 rfl Try.underlying24 (by kernel_rfl) (by kernel_rfl) (by decide) (src_rd 4 rfl) (all8_one _) sd sd rfl rfl rfl rfl rfl (fun A6 C7 => ?_))
  refine T_as 0 (.row (.slice A6 (0 + n) C7) 5 1 (0 + n) ([] ++ (xs.map b8))) (.row (.slice A6 (0 + n) C7) 5 1 (0 + n) (xs.map b8)) rfl (by first | rfl | (congr 1; simp; done) | (simp only [List.map_append]; rfl) | (rw [List.map_append]; rfl)) ?_
  refine L_op rfl (op_pr (pr_move rfl rfl) rfl rfl ?_)
  refine L_op rfl (op_pr (pr_len_sl Try.underlying24 rfl rfl) rfl rfl ?_)
  refine L_op rfl (op_call0 (vs := [(.int .i64 ((n : Nat) : Int))]) (cap := []) (fun w hw => rpad_f n w (hok_nil w) sd) (enters_of Try.func24 (by kernel_rfl) rfl) rfl rfl rfl rfl rfl (fun t8 q9 => ?_))
  obtain ⟨B10, d11⟩ := t8
  refine L_op rfl (op_append (z := (b8 (0#8))) (size := 1) (bytes := 1) 1 rfl Try.underlying24 (by kernel_rfl) (by kernel_rfl) (by decide) (src_row 0 rfl) (all8_one _) sd sd rfl rfl rfl rfl rfl (fun A12 C13 => ?_))
  refine T_as 0 (.row (.slice A12 (0 + n + plen n) C13) 5 1 (0 + n + plen n) ((xs.map b8) ++ ((padb n).map b8))) (.row (.slice A12 (0 + n + (plen n)) C13) 5 1 (0 + n + (plen n)) ((xs ++ padb n).map b8)) rfl (by first | rfl | (congr 1; simp; done) | (simp only [List.map_append]; rfl) | (rw [List.map_append]; rfl)) ?_
  refine T_slot 31 (.slice A12 (0 + n + plen n) C13) (.slice A12 (0 + n + (plen n)) C13) rfl rfl ?_
  refine L_op rfl (op_pr (pr_assign rfl rfl) rfl rfl ?_)
  refine L_nil ?_
  refine T_re [(2, (.pointer (some ⟨g1, 0, none⟩))), (3, (.pointer (some ⟨g4, 0, none⟩))), (4, (.pointer (some ⟨g5, 0, none⟩))), (5, (.slice A12 (0 + n + (plen n)) C13))] (sc rfl (sc rfl (sc rfl (sc rfl sn)))) ?_
  refine T_he [0, 1, 2, 3, 4, 5] [.row (.slice A12 (0 + n + (plen n)) C13) 5 1 (0 + n + (plen n)) ((xs ++ padb n).map b8), .row (.slice B10 (plen n) d11) 5 1 (plen n) ((padb n).map b8), .blk g5 55 [(b32 (1779033703#32)), (b32 (3144134277#32)), (b32 (1013904242#32)), (b32 (2773480762#32)), (b32 (1359893119#32)), (b32 (2600822924#32)), (b32 (528734635#32)), (b32 (1541459225#32))], .blk g4 33 (shaK.map b32), .blk g1 26 ((List.replicate 32 0#8).map b8), .rd A 1 n c (xs.map b8)] ⟨by decide, rfl⟩ ?_
  refine T_seq ?_
  refine T_seq ?_
  refine T_reg hF rfl ?_
  refine L_op rfl (op_pr (pr_assign rfl rfl) rfl rfl ?_)
  refine L_nil ?_
  refine T_re [(2, (.pointer (some ⟨g1, 0, none⟩))), (3, (.pointer (some ⟨g4, 0, none⟩))), (4, (.pointer (some ⟨g5, 0, none⟩))), (5, (.slice A12 (0 + n + (plen n)) C13)), (6, (.int .i64 ((0 : Nat) : Int)))] (sc rfl (sc rfl (sc rfl (sc rfl (sc rfl sn))))) ?_
  refine T_he [0, 1, 2, 3, 4, 5] [.row (.slice A12 (0 + n + (plen n)) C13) 5 1 (0 + n + (plen n)) ((xs ++ padb n).map b8), .row (.slice B10 (plen n) d11) 5 1 (plen n) ((padb n).map b8), .blk g5 55 [(b32 (1779033703#32)), (b32 (3144134277#32)), (b32 (1013904242#32)), (b32 (2773480762#32)), (b32 (1359893119#32)), (b32 (2600822924#32)), (b32 (528734635#32)), (b32 (1541459225#32))], .blk g4 33 (shaK.map b32), .blk g1 26 ((List.replicate 32 0#8).map b8), .rd A 1 n c (xs.map b8)] ⟨by decide, rfl⟩ ?_
  refine T_block ?_
  refine T_slot 6 (.int .i64 ((0 : Nat) : Int)) (.int .i64 ((64 * 0 : Nat) : Int)) rfl (by first | rfl | (congr 2; omega) | (simp; omega)) ?_
  refine T_as 2 (.blk g5 55 [(b32 (1779033703#32)), (b32 (3144134277#32)), (b32 (1013904242#32)), (b32 (2773480762#32)), (b32 (1359893119#32)), (b32 (2600822924#32)), (b32 (528734635#32)), (b32 (1541459225#32))]) (.blk g5 55 ((hst (shamsg xs) 0).map b32)) rfl (by rw [hst_zero]; unfold shaH; rfl) ?_
  refine T_loop (T := Nat) (fun k => k ≤ ((n + plen n + 64 - 1) / 64)) (fun k => [(2, (.pointer (some ⟨g1, 0, none⟩))), (3, (.pointer (some ⟨g4, 0, none⟩))), (4, (.pointer (some ⟨g5, 0, none⟩))), (5, (.slice A12 (0 + n + (plen n)) C13)), (6, (.int .i64 ((64 * k : Nat) : Int)))]) (fun k => [.row (.slice A12 (0 + n + (plen n)) C13) 5 1 (0 + n + (plen n)) ((xs ++ padb n).map b8), .row (.slice B10 (plen n) d11) 5 1 (plen n) ((padb n).map b8), .blk g5 55 ((hst (shamsg xs) k).map b32), .blk g4 33 (shaK.map b32), .blk g1 26 ((List.replicate 32 0#8).map b8), .rd A 1 n c (xs.map b8)]) (fun k => ((n + plen n + 64 - 1) / 64) - k) 0 (by first | trivial | ((try dsimp only); first | omega | (refine ⟨?_, ?_⟩ <;> omega) | (refine ⟨?_, ?_, ?_⟩ <;> omega) | (simp; done) | (simp; omega))) (sc rfl (sc rfl (sc rfl (sc rfl (sc rfl sn))))) [1, 2, 0, 3, 4, 5] ⟨by decide, rfl⟩ ?_
  rintro k hp
  have hp : k ≤ ((n + plen n + 64 - 1) / 64) := hp
  have hk8 := hstl k
  have hwl := schw_len (List.take 64 (List.drop (64 * k) (shamsg xs))) 64
  refine T_re [(2, (.pointer (some ⟨g1, 0, none⟩))), (3, (.pointer (some ⟨g4, 0, none⟩))), (4, (.pointer (some ⟨g5, 0, none⟩))), (5, (.slice A12 (0 + n + (plen n)) C13)), (6, (.int .i64 ((64 * k : Nat) : Int)))] (sc rfl (sc rfl (sc rfl (sc rfl (sc rfl sn))))) ?_
  refine T_he [0, 1, 2, 3, 4, 5] [.row (.slice A12 (0 + n + (plen n)) C13) 5 1 (0 + n + (plen n)) ((xs ++ padb n).map b8), .row (.slice B10 (plen n) d11) 5 1 (plen n) ((padb n).map b8), .blk g5 55 ((hst (shamsg xs) k).map b32), .blk g4 33 (shaK.map b32), .blk g1 26 ((List.replicate 32 0#8).map b8), .rd A 1 n c (xs.map b8)] ⟨by decide, rfl⟩ ?_
  refine T_seq ?_
  refine T_seq ?_
  refine T_reg hF rfl ?_
  refine L_op rfl (op_pr (pr_move rfl rfl) rfl rfl ?_)
  refine L_op rfl (op_pr (pr_move rfl rfl) rfl rfl ?_)
  refine L_op rfl (op_pr (pr_len_sl Try.underlying24 rfl rfl) rfl rfl ?_)
  refine L_op rfl (op_pr (pr_cmp (bo := .lss) (nc_lt (a := 64 * k) (b := 0 + n + (plen n))) rfl rfl rfl rfl) rfl rfl ?_)
  refine L_nil ?_
  refine T_re [(2, (.pointer (some ⟨g1, 0, none⟩))), (3, (.pointer (some ⟨g4, 0, none⟩))), (4, (.pointer (some ⟨g5, 0, none⟩))), (5, (.slice A12 (0 + n + (plen n)) C13)), (6, (.int .i64 ((64 * k : Nat) : Int))), (35, (.bool (decide (64 * k < 0 + n + (plen n)))))] (sc rfl (sc rfl (sc rfl (sc rfl (sc rfl (sc rfl sn)))))) ?_
  refine T_he [0, 1, 2, 3, 4, 5] [.row (.slice A12 (0 + n + (plen n)) C13) 5 1 (0 + n + (plen n)) ((xs ++ padb n).map b8), .row (.slice B10 (plen n) d11) 5 1 (plen n) ((padb n).map b8), .blk g5 55 ((hst (shamsg xs) k).map b32), .blk g4 33 (shaK.map b32), .blk g1 26 ((List.replicate 32 0#8).map b8), .rd A 1 n c (xs.map b8)] ⟨by decide, rfl⟩ ?_
  refine T_cond (decide (64 * k < 0 + n + (plen n))) rfl (fun hc_14 => ?_) (fun hc_14 => ?_)
  · skip
    have hc_14 := of_decide_eq_true hc_14
    refine T_skip ?_
    refine T_seq ?_
    refine T_block ?_
    refine T_seq ?_
    refine T_reg hF rfl ?_
    refine L_op rfl (op_alloc (z := .agg ((List.replicate 64 0#32).map b32).toArray) (zs := ((List.replicate 64 0#32).map b32)) (by kernel_rfl) rfl rfl rfl rfl (fun g15 => ?_))
    refine L_nil ?_
    refine T_re [(2, (.pointer (some ⟨g1, 0, none⟩))), (3, (.pointer (some ⟨g4, 0, none⟩))), (4, (.pointer (some ⟨g5, 0, none⟩))), (5, (.slice A12 (0 + n + (plen n)) C13)), (6, (.int .i64 ((64 * k : Nat) : Int))), (7, (.pointer (some ⟨g15, 0, none⟩)))] (sc rfl (sc rfl (sc rfl (sc rfl (sc rfl (sc rfl sn)))))) ?_
    refine T_he [0, 1, 2, 3, 4, 5, 6] [.blk g15 33 ((List.replicate 64 0#32).map b32), .row (.slice A12 (0 + n + (plen n)) C13) 5 1 (0 + n + (plen n)) ((xs ++ padb n).map b8), .row (.slice B10 (plen n) d11) 5 1 (plen n) ((padb n).map b8), .blk g5 55 ((hst (shamsg xs) k).map b32), .blk g4 33 (shaK.map b32), .blk g1 26 ((List.replicate 32 0#8).map b8), .rd A 1 n c (xs.map b8)] ⟨by decide, rfl⟩ ?_
    refine T_seq ?_
    refine T_seq ?_
    refine T_reg hF rfl ?_
    refine L_op rfl (op_pr (pr_assign rfl rfl) rfl rfl ?_)
    refine L_nil ?_
    refine T_re [(2, (.pointer (some ⟨g1, 0, none⟩))), (3, (.pointer (some ⟨g4, 0, none⟩))), (4, (.pointer (some ⟨g5, 0, none⟩))), (5, (.slice A12 (0 + n + (plen n)) C13)), (6, (.int .i64 ((64 * k : Nat) : Int))), (7, (.pointer (some ⟨g15, 0, none⟩))), (8, (.int .i64 ((0 : Nat) : Int)))] (sc rfl (sc rfl (sc rfl (sc rfl (sc rfl (sc rfl (sc rfl sn))))))) ?_
    refine T_he [0, 1, 2, 3, 4, 5, 6] [.blk g15 33 ((List.replicate 64 0#32).map b32), .row (.slice A12 (0 + n + (plen n)) C13) 5 1 (0 + n + (plen n)) ((xs ++ padb n).map b8), .row (.slice B10 (plen n) d11) 5 1 (plen n) ((padb n).map b8), .blk g5 55 ((hst (shamsg xs) k).map b32), .blk g4 33 (shaK.map b32), .blk g1 26 ((List.replicate 32 0#8).map b8), .rd A 1 n c (xs.map b8)] ⟨by decide, rfl⟩ ?_
    refine T_block ?_
    refine T_as 0 (.blk g15 33 ((List.replicate 64 0#32).map b32)) (.blk g15 33 ((fil (schw (List.take 64 (List.drop (64 * k) (shamsg xs))) 0) 64).map b32)) rfl (by rw [← fil_zero]) ?_
    refine T_loop (T := Nat) (fun j => j ≤ 64) (fun j => [(2, (.pointer (some ⟨g1, 0, none⟩))), (3, (.pointer (some ⟨g4, 0, none⟩))), (4, (.pointer (some ⟨g5, 0, none⟩))), (5, (.slice A12 (0 + n + (plen n)) C13)), (6, (.int .i64 ((64 * k : Nat) : Int))), (7, (.pointer (some ⟨g15, 0, none⟩))), (8, (.int .i64 ((j : Nat) : Int)))]) (fun j => [.blk g15 33 ((fil (schw (List.take 64 (List.drop (64 * k) (shamsg xs))) j) 64).map b32), .row (.slice A12 (0 + n + (plen n)) C13) 5 1 (0 + n + (plen n)) ((xs ++ padb n).map b8), .row (.slice B10 (plen n) d11) 5 1 (plen n) ((padb n).map b8), .blk g5 55 ((hst (shamsg xs) k).map b32), .blk g4 33 (shaK.map b32), .blk g1 26 ((List.replicate 32 0#8).map b8), .rd A 1 n c (xs.map b8)]) (fun j => 64 - j) 0 (by first | trivial | ((try dsimp only); first | omega | (refine ⟨?_, ?_⟩ <;> omega) | (refine ⟨?_, ?_, ?_⟩ <;> omega) | (simp; done) | (simp; omega))) (sc rfl (sc rfl (sc rfl (sc rfl (sc rfl (sc rfl (sc rfl sn))))))) [0, 1, 2, 3, 4, 5, 6] ⟨by decide, rfl⟩ ?_
    rintro j hp
    have hp : j ≤ 64 := hp
    have hfl := fschw_len (List.take 64 (List.drop (64 * k) (shamsg xs))) j hp
    refine T_re [(2, (.pointer (some ⟨g1, 0, none⟩))), (3, (.pointer (some ⟨g4, 0, none⟩))), (4, (.pointer (some ⟨g5, 0, none⟩))), (5, (.slice A12 (0 + n + (plen n)) C13)), (6, (.int .i64 ((64 * k : Nat) : Int))), (7, (.pointer (some ⟨g15, 0, none⟩))), (8, (.int .i64 ((j : Nat) : Int)))] (sc rfl (sc rfl (sc rfl (sc rfl (sc rfl (sc rfl (sc rfl sn))))))) ?_
    refine T_he [0, 1, 2, 3, 4, 5, 6] [.blk g15 33 ((fil (schw (List.take 64 (List.drop (64 * k) (shamsg xs))) j) 64).map b32), .row (.slice A12 (0 + n + (plen n)) C13) 5 1 (0 + n + (plen n)) ((xs ++ padb n).map b8), .row (.slice B10 (plen n) d11) 5 1 (plen n) ((padb n).map b8), .blk g5 55 ((hst (shamsg xs) k).map b32), .blk g4 33 (shaK.map b32), .blk g1 26 ((List.replicate 32 0#8).map b8), .rd A 1 n c (xs.map b8)] ⟨by decide, rfl⟩ ?_
    refine T_seq ?_
    refine T_seq ?_
    refine T_reg hF rfl ?_
    refine L_op rfl (op_pr (pr_move rfl rfl) rfl rfl ?_)
    refine L_op rfl (op_pr (pr_cmp (bo := .lss) (nc_lt (a := j) (b := 64)) rfl rfl rfl rfl) rfl rfl ?_)
    refine L_nil ?_
    refine T_re [(2, (.pointer (some ⟨g1, 0, none⟩))), (3, (.pointer (some ⟨g4, 0, none⟩))), (4, (.pointer (some ⟨g5, 0, none⟩))), (5, (.slice A12 (0 + n + (plen n)) C13)), (6, (.int .i64 ((64 * k : Nat) : Int))), (7, (.pointer (some ⟨g15, 0, none⟩))), (8, (.int .i64 ((j : Nat) : Int))), (39, (.bool (decide (j < 64))))] (sc rfl (sc rfl (sc rfl (sc rfl (sc rfl (sc rfl (sc rfl (sc rfl sn)))))))) ?_
    refine T_he [0, 1, 2, 3, 4, 5, 6] [.blk g15 33 ((fil (schw (List.take 64 (List.drop (64 * k) (shamsg xs))) j) 64).map b32), .row (.slice A12 (0 + n + (plen n)) C13) 5 1 (0 + n + (plen n)) ((xs ++ padb n).map b8), .row (.slice B10 (plen n) d11) 5 1 (plen n) ((padb n).map b8), .blk g5 55 ((hst (shamsg xs) k).map b32), .blk g4 33 (shaK.map b32), .blk g1 26 ((List.replicate 32 0#8).map b8), .rd A 1 n c (xs.map b8)] ⟨by decide, rfl⟩ ?_
    refine T_cond (decide (j < 64)) rfl (fun hc_16 => ?_) (fun hc_16 => ?_)
    · skip
      have hc_16 := of_decide_eq_true hc_16
      refine T_skip ?_
      refine T_seq ?_
      refine T_block ?_
      refine T_seq ?_
      refine T_seq ?_
      refine T_reg hF rfl ?_
      refine L_op rfl (op_pr (pr_move rfl rfl) rfl rfl ?_)
      refine L_op rfl (op_pr (pr_cmp (bo := .lss) (nc_lt (a := j) (b := 16)) rfl rfl rfl rfl) rfl rfl ?_)
      refine L_nil ?_
      refine T_re [(2, (.pointer (some ⟨g1, 0, none⟩))), (3, (.pointer (some ⟨g4, 0, none⟩))), (4, (.pointer (some ⟨g5, 0, none⟩))), (5, (.slice A12 (0 + n + (plen n)) C13)), (6, (.int .i64 ((64 * k : Nat) : Int))), (7, (.pointer (some ⟨g15, 0, none⟩))), (8, (.int .i64 ((j : Nat) : Int))), (43, (.bool (decide (j < 16))))] (sc rfl (sc rfl (sc rfl (sc rfl (sc rfl (sc rfl (sc rfl (sc rfl sn)))))))) ?_
      refine T_he [0, 1, 2, 3, 4, 5, 6] [.blk g15 33 ((fil (schw (List.take 64 (List.drop (64 * k) (shamsg xs))) j) 64).map b32), .row (.slice A12 (0 + n + (plen n)) C13) 5 1 (0 + n + (plen n)) ((xs ++ padb n).map b8), .row (.slice B10 (plen n) d11) 5 1 (plen n) ((padb n).map b8), .blk g5 55 ((hst (shamsg xs) k).map b32), .blk g4 33 (shaK.map b32), .blk g1 26 ((List.replicate 32 0#8).map b8), .rd A 1 n c (xs.map b8)] ⟨by decide, rfl⟩ ?_
      refine T_cond (decide (j < 16)) rfl (fun hc_17 => ?_) (fun hc_17 => ?_)
      · skip
        have hc_17 := of_decide_eq_true hc_17
        refine T_seq ?_
        refine T_reg hF rfl ?_
        refine L_op rfl (op_pr (pr_move rfl rfl) rfl rfl ?_)
        refine L_op rfl (op_pr (pr_move rfl rfl) rfl rfl ?_)
        refine L_op rfl (op_pr (pr_mul (nm_i64 (a := 4) (b := j) sd) rfl rfl rfl) rfl rfl ?_)
        refine L_op rfl (op_pr (pr_add (na_i64 (a := 64 * k) (b := 4 * j) sd) rfl rfl rfl) rfl rfl ?_)
        refine L_op rfl (op_pr (pr_assign rfl rfl) rfl rfl ?_)
        refine L_nil ?_
        refine T_re [(2, (.pointer (some ⟨g1, 0, none⟩))), (3, (.pointer (some ⟨g4, 0, none⟩))), (4, (.pointer (some ⟨g5, 0, none⟩))), (5, (.slice A12 (0 + n + (plen n)) C13)), (6, (.int .i64 ((64 * k : Nat) : Int))), (7, (.pointer (some ⟨g15, 0, none⟩))), (8, (.int .i64 ((j : Nat) : Int))), (9, (.int .i64 ((64 * k + (4 * j) : Nat) : Int)))] (sc rfl (sc rfl (sc rfl (sc rfl (sc rfl (sc rfl (sc rfl (sc rfl sn)))))))) ?_
        refine T_he [0, 1, 2, 3, 4, 5, 6] [.blk g15 33 ((fil (schw (List.take 64 (List.drop (64 * k) (shamsg xs))) j) 64).map b32), .row (.slice A12 (0 + n + (plen n)) C13) 5 1 (0 + n + (plen n)) ((xs ++ padb n).map b8), .row (.slice B10 (plen n) d11) 5 1 (plen n) ((padb n).map b8), .blk g5 55 ((hst (shamsg xs) k).map b32), .blk g4 33 (shaK.map b32), .blk g1 26 ((List.replicate 32 0#8).map b8), .rd A 1 n c (xs.map b8)] ⟨by decide, rfl⟩ ?_
        refine T_seq ?_
        refine T_regD [.blk g15 33 ((fil (schw (List.take 64 (List.drop (64 * k) (shamsg xs))) j) 64).map b32), .row (.slice A12 (0 + n + (plen n)) C13) 5 1 (0 + n + (plen n)) ((xs ++ padb n).map b8), .row (.slice B10 (plen n) d11) 5 1 (plen n) ((padb n).map b8), .blk g5 55 ((hst (shamsg xs) k).map b32), .blk g4 33 (shaK.map b32), .blk g1 26 ((List.replicate 32 0#8).map b8), .rd A 1 n c (xs.map b8)] 31 32 #[false, false, false, false, false, false, false, false, false, false, false, false, false, false, false, false, false, false, false, false, false, false, false, false, false, false, false, false, false, false, false, false] hF (by kernel_rfl) (by kernel_rfl) ?_
        refine D_pure (i := 0) [0, 1, 2, 3, 4, 5, 6] rfl (by kernel_rfl) rfl (pr_move rfl rfl) (.inr rfl) rfl rfl ?_
        refine D_pure (i := 1) [0, 1, 2, 3, 4, 5, 6] rfl (by kernel_rfl) rfl (pr_move rfl rfl) (.inr rfl) rfl rfl ?_
        refine D_pure (i := 2) [0, 1, 2, 3, 4, 5, 6] rfl (by kernel_rfl) rfl (pr_move rfl rfl) (.inr rfl) rfl rfl ?_
        refine D_pure (i := 3) [0, 1, 2, 3, 4, 5, 6] rfl (by kernel_rfl) rfl (pr_ixs1 (j := 64 * k + (4 * j)) (src_none (src_row 1 rfl)) sd Try.underlying24 (by kernel_rfl) rfl rfl rfl) (.inr rfl) rfl rfl ?_
        refine D_pure (i := 7) [0, 1, 2, 3, 4, 5, 6] rfl (by kernel_rfl) rfl (pr_move rfl rfl) (.inr rfl) rfl rfl ?_
        refine D_pure (i := 8) [0, 1, 2, 3, 4, 5, 6] rfl (by kernel_rfl) rfl (pr_move rfl rfl) (.inr rfl) rfl rfl ?_
        refine D_pure (i := 9) [0, 1, 2, 3, 4, 5, 6] rfl (by kernel_rfl) rfl (pr_add (na_i64 (a := 64 * k + (4 * j)) (b := 1) sd) rfl rfl rfl) (.inr rfl) rfl rfl ?_
        refine D_pure (i := 10) [0, 1, 2, 3, 4, 5, 6] rfl (by kernel_rfl) rfl (pr_ixs1 (j := 64 * k + (4 * j) + 1) (src_none (src_row 1 rfl)) sd Try.underlying24 (by kernel_rfl) rfl rfl rfl) (.inr rfl) rfl rfl ?_
        refine D_pure (i := 15) [0, 1, 2, 3, 4, 5, 6] rfl (by kernel_rfl) rfl (pr_move rfl rfl) (.inr rfl) rfl rfl ?_
        refine D_pure (i := 16) [0, 1, 2, 3, 4, 5, 6] rfl (by kernel_rfl) rfl (pr_move rfl rfl) (.inr rfl) rfl rfl ?_
        refine D_pure (i := 17) [0, 1, 2, 3, 4, 5, 6] rfl (by kernel_rfl) rfl (pr_add (na_i64 (a := 64 * k + (4 * j)) (b := 2) sd) rfl rfl rfl) (.inr rfl) rfl rfl ?_
        refine D_pure (i := 18) [0, 1, 2, 3, 4, 5, 6] rfl (by kernel_rfl) rfl (pr_ixs1 (j := 64 * k + (4 * j) + 2) (src_none (src_row 1 rfl)) sd Try.underlying24 (by kernel_rfl) rfl rfl rfl) (.inr rfl) rfl rfl ?_
        refine D_pure (i := 23) [0, 1, 2, 3, 4, 5, 6] rfl (by kernel_rfl) rfl (pr_move rfl rfl) (.inr rfl) rfl rfl ?_
        refine D_pure (i := 24) [0, 1, 2, 3, 4, 5, 6] rfl (by kernel_rfl) rfl (pr_move rfl rfl) (.inr rfl) rfl rfl ?_
        refine D_pure (i := 25) [0, 1, 2, 3, 4, 5, 6] rfl (by kernel_rfl) rfl (pr_add (na_i64 (a := 64 * k + (4 * j)) (b := 3) sd) rfl rfl rfl) (.inr rfl) rfl rfl ?_
        refine D_pure (i := 26) [0, 1, 2, 3, 4, 5, 6] rfl (by kernel_rfl) rfl (pr_ixs1 (j := 64 * k + (4 * j) + 3) (src_none (src_row 1 rfl)) sd Try.underlying24 (by kernel_rfl) rfl rfl rfl) (.inr rfl) rfl rfl ?_
        refine D_take (i := 4) [0, 1, 2, 3, 4, 5, 6] rfl (by kernel_rfl) rfl (ld_src (m := 64 * k + (4 * j)) (src_row 1 rfl) (get8 sd) Try.underlying5 rfl rfl rfl) rfl rfl rfl ?_
        refine D_pure (i := 5) [0, 1, 2, 3, 4, 5, 6] rfl (by kernel_rfl) rfl (pr_cv (cv8_32 _) Try.underlying5 Try.underlying32 rfl rfl) (.inr rfl) rfl rfl ?_
        refine D_pure (i := 6) [0, 1, 2, 3, 4, 5, 6] rfl (by kernel_rfl) rfl (pr_shift (sh_shl32 ((ath (xs ++ padb n) (64 * k + (4 * j))).setWidth 32) _ 24) rfl rfl rfl rfl) (.inr rfl) rfl rfl ?_
        refine D_take (i := 11) [0, 1, 2, 3, 4, 5, 6] rfl (by kernel_rfl) rfl (ld_src (m := 64 * k + (4 * j) + 1) (src_row 1 rfl) (get8 sd) Try.underlying5 rfl rfl rfl) rfl rfl rfl ?_
        refine D_pure (i := 12) [0, 1, 2, 3, 4, 5, 6] rfl (by kernel_rfl) rfl (pr_cv (cv8_32 _) Try.underlying5 Try.underlying32 rfl rfl) (.inr rfl) rfl rfl ?_
        refine D_pure (i := 13) [0, 1, 2, 3, 4, 5, 6] rfl (by kernel_rfl) rfl (pr_shift (sh_shl32 ((ath (xs ++ padb n) (64 * k + (4 * j) + 1)).setWidth 32) _ 16) rfl rfl rfl rfl) (.inr rfl) rfl rfl ?_
        refine D_pure (i := 14) [0, 1, 2, 3, 4, 5, 6] rfl (by kernel_rfl) rfl (pr_or (ib_or32 _ _) rfl rfl rfl) (.inr rfl) rfl rfl ?_
        refine D_take (i := 19) [0, 1, 2, 3, 4, 5, 6] rfl (by kernel_rfl) rfl (ld_src (m := 64 * k + (4 * j) + 2) (src_row 1 rfl) (get8 sd) Try.underlying5 rfl rfl rfl) rfl rfl rfl ?_
        refine D_pure (i := 20) [0, 1, 2, 3, 4, 5, 6] rfl (by kernel_rfl) rfl (pr_cv (cv8_32 _) Try.underlying5 Try.underlying32 rfl rfl) (.inr rfl) rfl rfl ?_
        refine D_pure (i := 21) [0, 1, 2, 3, 4, 5, 6] rfl (by kernel_rfl) rfl (pr_shift (sh_shl32 ((ath (xs ++ padb n) (64 * k + (4 * j) + 2)).setWidth 32) _ 8) rfl rfl rfl rfl) (.inr rfl) rfl rfl ?_
        refine D_pure (i := 22) [0, 1, 2, 3, 4, 5, 6] rfl (by kernel_rfl) rfl (pr_or (ib_or32 _ _) rfl rfl rfl) (.inr rfl) rfl rfl ?_
        refine D_take (i := 27) [0, 1, 2, 3, 4, 5, 6] rfl (by kernel_rfl) rfl (ld_src (m := 64 * k + (4 * j) + 3) (src_row 1 rfl) (get8 sd) Try.underlying5 rfl rfl rfl) rfl rfl rfl ?_
        refine D_pure (i := 28) [0, 1, 2, 3, 4, 5, 6] rfl (by kernel_rfl) rfl (pr_cv (cv8_32 _) Try.underlying5 Try.underlying32 rfl rfl) (.inr rfl) rfl rfl ?_
        refine D_pure (i := 29) [0, 1, 2, 3, 4, 5, 6] rfl (by kernel_rfl) rfl (pr_or (ib_or32 _ _) rfl rfl rfl) (.inr rfl) rfl rfl ?_
        refine D_pure (i := 30) [0, 1, 2, 3, 4, 5, 6] rfl (by kernel_rfl) rfl (pr_ixa (j := j) (m' := j) sd (by omega) Try.underlying33 (z := 1) (by kernel_rfl) rfl rfl rfl) (.inr rfl) rfl rfl ?_
        refine D_one 31 _ rfl (by kernel_rfl) rfl (op_store (vs := [(b32 ((((((ath (xs ++ padb n) (64 * k + (4 * j))).setWidth 32) <<< 24) ||| (((ath (xs ++ padb n) (64 * k + (4 * j) + 1)).setWidth 32) <<< 16)) ||| (((ath (xs ++ padb n) (64 * k + (4 * j) + 2)).setWidth 32) <<< 8)) ||| ((ath (xs ++ padb n) (64 * k + (4 * j) + 3)).setWidth 32)))]) (cs' := ((List.set (fil (schw (List.take 64 (List.drop (64 * k) (shamsg xs))) j) 64) j ((((((ath (xs ++ padb n) (64 * k + (4 * j))).setWidth 32) <<< 24) ||| (((ath (xs ++ padb n) (64 * k + (4 * j) + 1)).setWidth 32) <<< 16)) ||| (((ath (xs ++ padb n) (64 * k + (4 * j) + 2)).setWidth 32) <<< 8)) ||| ((ath (xs ++ padb n) (64 * k + (4 * j) + 3)).setWidth 32))).map b32)) 0 rfl rfl (by kernel_rfl) (one_one rfl) (by have : j < ((fil (schw (List.take 64 (List.drop (64 * k) (shamsg xs))) j) 64)).length := sd; simp only [List.length_map, List.length_singleton]; omega) (splice_map (f := b32) sd) rfl rfl rfl rfl ?_)
        refine D_past (by kernel_rfl) ?_
        refine D_done (by kernel_rfl) ?_
        refine T_re [(2, (.pointer (some ⟨g1, 0, none⟩))), (3, (.pointer (some ⟨g4, 0, none⟩))), (4, (.pointer (some ⟨g5, 0, none⟩))), (5, (.slice A12 (0 + n + (plen n)) C13)), (6, (.int .i64 ((64 * k : Nat) : Int))), (7, (.pointer (some ⟨g15, 0, none⟩))), (8, (.int .i64 ((j : Nat) : Int)))] (sc rfl (sc rfl (sc rfl (sc rfl (sc rfl (sc rfl (sc rfl sn))))))) ?_
        refine T_he [0, 1, 2, 3, 4, 5, 6] [.blk g15 33 ((List.set (fil (schw (List.take 64 (List.drop (64 * k) (shamsg xs))) j) 64) j ((((((ath (xs ++ padb n) (64 * k + (4 * j))).setWidth 32) <<< 24) ||| (((ath (xs ++ padb n) (64 * k + (4 * j) + 1)).setWidth 32) <<< 16)) ||| (((ath (xs ++ padb n) (64 * k + (4 * j) + 2)).setWidth 32) <<< 8)) ||| ((ath (xs ++ padb n) (64 * k + (4 * j) + 3)).setWidth 32))).map b32), .row (.slice A12 (0 + n + (plen n)) C13) 5 1 (0 + n + (plen n)) ((xs ++ padb n).map b8), .row (.slice B10 (plen n) d11) 5 1 (plen n) ((padb n).map b8), .blk g5 55 ((hst (shamsg xs) k).map b32), .blk g4 33 (shaK.map b32), .blk g1 26 ((List.replicate 32 0#8).map b8), .rd A 1 n c (xs.map b8)] ⟨by decide, rfl⟩ ?_
        refine T_exit rfl ?_
        refine T_reg hF rfl ?_
        refine L_op rfl (op_pr (pr_move rfl rfl) rfl rfl ?_)
        refine L_op rfl (op_pr (pr_add (na_i64 (a := j) (b := 1) sd) rfl rfl rfl) rfl rfl ?_)
        refine L_op rfl (op_pr (pr_assign rfl rfl) rfl rfl ?_)
        refine L_nil ?_
        refine T_re [(2, (.pointer (some ⟨g1, 0, none⟩))), (3, (.pointer (some ⟨g4, 0, none⟩))), (4, (.pointer (some ⟨g5, 0, none⟩))), (5, (.slice A12 (0 + n + (plen n)) C13)), (6, (.int .i64 ((64 * k : Nat) : Int))), (7, (.pointer (some ⟨g15, 0, none⟩))), (8, (.int .i64 ((j + 1 : Nat) : Int)))] (sc rfl (sc rfl (sc rfl (sc rfl (sc rfl (sc rfl (sc rfl sn))))))) ?_
        refine T_he [0, 1, 2, 3, 4, 5, 6] [.blk g15 33 ((List.set (fil (schw (List.take 64 (List.drop (64 * k) (shamsg xs))) j) 64) j ((((((ath (xs ++ padb n) (64 * k + (4 * j))).setWidth 32) <<< 24) ||| (((ath (xs ++ padb n) (64 * k + (4 * j) + 1)).setWidth 32) <<< 16)) ||| (((ath (xs ++ padb n) (64 * k + (4 * j) + 2)).setWidth 32) <<< 8)) ||| ((ath (xs ++ padb n) (64 * k + (4 * j) + 3)).setWidth 32))).map b32), .row (.slice A12 (0 + n + (plen n)) C13) 5 1 (0 + n + (plen n)) ((xs ++ padb n).map b8), .row (.slice B10 (plen n) d11) 5 1 (plen n) ((padb n).map b8), .blk g5 55 ((hst (shamsg xs) k).map b32), .blk g4 33 (shaK.map b32), .blk g1 26 ((List.replicate 32 0#8).map b8), .rd A 1 n c (xs.map b8)] ⟨by decide, rfl⟩ ?_
        refine T_as 0 (.blk g15 33 ((List.set (fil (schw (List.take 64 (List.drop (64 * k) (shamsg xs))) j) 64) j ((((((ath (xs ++ padb n) (64 * k + (4 * j))).setWidth 32) <<< 24) ||| (((ath (xs ++ padb n) (64 * k + (4 * j) + 1)).setWidth 32) <<< 16)) ||| (((ath (xs ++ padb n) (64 * k + (4 * j) + 2)).setWidth 32) <<< 8)) ||| ((ath (xs ++ padb n) (64 * k + (4 * j) + 3)).setWidth 32))).map b32)) (.blk g15 33 ((fil (schw (List.take 64 (List.drop (64 * k) (shamsg xs))) (j + 1)) 64).map b32)) rfl (by rw [hms, rsch_lo (shamsg xs) k j (by omega)]) ?_
        exact T_again (j + 1) (by first | trivial | ((try dsimp only); first | omega | (refine ⟨?_, ?_⟩ <;> omega) | (refine ⟨?_, ?_, ?_⟩ <;> omega) | (simp; done) | (simp; omega))) (by first | trivial | ((try dsimp only); first | omega | (refine ⟨?_, ?_⟩ <;> omega) | (refine ⟨?_, ?_, ?_⟩ <;> omega) | (simp; done) | (simp; omega))) (sc rfl (sc rfl (sc rfl (sc rfl (sc rfl (sc rfl (sc rfl sn))))))) [0, 1, 2, 3, 4, 5, 6] ⟨by decide, rfl⟩
      · skip
        have hc_17 := of_decide_eq_false hc_17
        refine T_skip ?_
        refine T_seq ?_
        refine T_regD [.blk g15 33 ((fil (schw (List.take 64 (List.drop (64 * k) (shamsg xs))) j) 64).map b32), .row (.slice A12 (0 + n + (plen n)) C13) 5 1 (0 + n + (plen n)) ((xs ++ padb n).map b8), .row (.slice B10 (plen n) d11) 5 1 (plen n) ((padb n).map b8), .blk g5 55 ((hst (shamsg xs) k).map b32), .blk g4 33 (shaK.map b32), .blk g1 26 ((List.replicate 32 0#8).map b8), .rd A 1 n c (xs.map b8)] 10 10 #[false, false, false, false, false, false, false, false, false, false] hF (by kernel_rfl) (by kernel_rfl) ?_
        refine D_pure (i := 0) [0, 1, 2, 3, 4, 5, 6] rfl (by kernel_rfl) rfl (pr_move rfl rfl) (.inr rfl) rfl rfl ?_
        refine D_pure (i := 1) [0, 1, 2, 3, 4, 5, 6] rfl (by kernel_rfl) rfl (pr_sub (ns_i64 (a := j) (b := 15) sd sd) rfl rfl rfl) (.inr rfl) rfl rfl ?_
        refine D_pure (i := 2) [0, 1, 2, 3, 4, 5, 6] rfl (by kernel_rfl) rfl (pr_ixa (j := j - 15) (m' := j - 15) sd (by omega) Try.underlying33 (z := 1) (by kernel_rfl) rfl rfl rfl) (.inr rfl) rfl rfl ?_
        refine D_pure (i := 4) [0, 1, 2, 3, 4, 5, 6] rfl (by kernel_rfl) rfl (pr_move rfl rfl) (.inr rfl) rfl rfl ?_
        refine D_pure (i := 5) [0, 1, 2, 3, 4, 5, 6] rfl (by kernel_rfl) rfl (pr_sub (ns_i64 (a := j) (b := 2) sd sd) rfl rfl rfl) (.inr rfl) rfl rfl ?_
        refine D_pure (i := 6) [0, 1, 2, 3, 4, 5, 6] rfl (by kernel_rfl) rfl (pr_ixa (j := j - 2) (m' := j - 2) sd (by omega) Try.underlying33 (z := 1) (by kernel_rfl) rfl rfl rfl) (.inr rfl) rfl rfl ?_
        refine D_take (i := 3) [0, 1, 2, 3, 4, 5, 6] rfl (by kernel_rfl) rfl (ld_blk 0 rfl (get32 sd) Try.underlying32 rfl rfl rfl) rfl rfl rfl ?_
        refine D_pure (i := 8) [0, 1, 2, 3, 4, 5, 6] rfl (by kernel_rfl) rfl (pr_assign rfl rfl) (.inr rfl) rfl rfl ?_
        refine D_take (i := 7) [0, 1, 2, 3, 4, 5, 6] rfl (by kernel_rfl) rfl (ld_blk 0 rfl (get32 sd) Try.underlying32 rfl rfl rfl) rfl rfl rfl ?_
        refine D_pure (i := 9) [0, 1, 2, 3, 4, 5, 6] rfl (by kernel_rfl) rfl (pr_assign rfl rfl) (.inr rfl) rfl rfl ?_
        refine D_done (by kernel_rfl) ?_
        refine T_re [(2, (.pointer (some ⟨g1, 0, none⟩))), (3, (.pointer (some ⟨g4, 0, none⟩))), (4, (.pointer (some ⟨g5, 0, none⟩))), (5, (.slice A12 (0 + n + (plen n)) C13)), (6, (.int .i64 ((64 * k : Nat) : Int))), (7, (.pointer (some ⟨g15, 0, none⟩))), (8, (.int .i64 ((j : Nat) : Int))), (10, (b32 (ath (fil (schw (List.take 64 (List.drop (64 * k) (shamsg xs))) j) 64) (j - 15)))), (11, (b32 (ath (fil (schw (List.take 64 (List.drop (64 * k) (shamsg xs))) j) 64) (j - 2))))] (sc rfl (sc rfl (sc rfl (sc rfl (sc rfl (sc rfl (sc rfl (sc rfl (sc rfl sn))))))))) ?_
        refine T_he [0, 1, 2, 3, 4, 5, 6] [.blk g15 33 ((fil (schw (List.take 64 (List.drop (64 * k) (shamsg xs))) j) 64).map b32), .row (.slice A12 (0 + n + (plen n)) C13) 5 1 (0 + n + (plen n)) ((xs ++ padb n).map b8), .row (.slice B10 (plen n) d11) 5 1 (plen n) ((padb n).map b8), .blk g5 55 ((hst (shamsg xs) k).map b32), .blk g4 33 (shaK.map b32), .blk g1 26 ((List.replicate 32 0#8).map b8), .rd A 1 n c (xs.map b8)] ⟨by decide, rfl⟩ ?_
        refine T_seq ?_
        refine T_reg hF rfl ?_
        refine L_op rfl (op_pr (pr_move rfl rfl) rfl rfl ?_)
        refine L_op rfl (op_call0 (vs := [(b32 (ath (fil (schw (List.take 64 (List.drop (64 * k) (shamsg xs))) j) 64) (j - 15))), (.int .i64 ((7 : Nat) : Int))]) (cap := []) (fun w hw => turn_f (ath (fil (schw (List.take 64 (List.drop (64 * k) (shamsg xs))) j) 64) (j - 15)) 7 w (hok_nil w) sd sd) (enters_of Try.func40 (by kernel_rfl) rfl) rfl rfl rfl rfl rfl (fun t18 q19 => ?_))
        refine L_op rfl (op_pr (pr_move rfl rfl) rfl rfl ?_)
        refine L_op rfl (op_call0 (vs := [(b32 (ath (fil (schw (List.take 64 (List.drop (64 * k) (shamsg xs))) j) 64) (j - 15))), (.int .i64 ((18 : Nat) : Int))]) (cap := []) (fun w hw => turn_f (ath (fil (schw (List.take 64 (List.drop (64 * k) (shamsg xs))) j) 64) (j - 15)) 18 w (hok_nil w) sd sd) (enters_of Try.func40 (by kernel_rfl) rfl) rfl rfl rfl rfl rfl (fun t20 q21 => ?_))
        refine L_op rfl (op_pr (pr_xor (ib_xor32 _ _) rfl rfl rfl) rfl rfl ?_)
        refine L_op rfl (op_pr (pr_move rfl rfl) rfl rfl ?_)
        refine L_op rfl (op_pr (pr_shift (sh_shr32 (ath (fil (schw (List.take 64 (List.drop (64 * k) (shamsg xs))) j) 64) (j - 15)) _ 3) rfl rfl rfl rfl) rfl rfl ?_)
        refine L_op rfl (op_pr (pr_xor (ib_xor32 _ _) rfl rfl rfl) rfl rfl ?_)
        refine L_op rfl (op_pr (pr_assign rfl rfl) rfl rfl ?_)
        refine L_nil ?_
        refine T_re [(2, (.pointer (some ⟨g1, 0, none⟩))), (3, (.pointer (some ⟨g4, 0, none⟩))), (4, (.pointer (some ⟨g5, 0, none⟩))), (5, (.slice A12 (0 + n + (plen n)) C13)), (6, (.int .i64 ((64 * k : Nat) : Int))), (7, (.pointer (some ⟨g15, 0, none⟩))), (8, (.int .i64 ((j : Nat) : Int))), (11, (b32 (ath (fil (schw (List.take 64 (List.drop (64 * k) (shamsg xs))) j) 64) (j - 2)))), (12, (b32 (((ror32 (ath (fil (schw (List.take 64 (List.drop (64 * k) (shamsg xs))) j) 64) (j - 15)) 7) ^^^ (ror32 (ath (fil (schw (List.take 64 (List.drop (64 * k) (shamsg xs))) j) 64) (j - 15)) 18)) ^^^ ((ath (fil (schw (List.take 64 (List.drop (64 * k) (shamsg xs))) j) 64) (j - 15)) >>> 3))))] (sc rfl (sc rfl (sc rfl (sc rfl (sc rfl (sc rfl (sc rfl (sc rfl (sc rfl sn))))))))) ?_
        refine T_he [0, 1, 2, 3, 4, 5, 6] [.blk g15 33 ((fil (schw (List.take 64 (List.drop (64 * k) (shamsg xs))) j) 64).map b32), .row (.slice A12 (0 + n + (plen n)) C13) 5 1 (0 + n + (plen n)) ((xs ++ padb n).map b8), .row (.slice B10 (plen n) d11) 5 1 (plen n) ((padb n).map b8), .blk g5 55 ((hst (shamsg xs) k).map b32), .blk g4 33 (shaK.map b32), .blk g1 26 ((List.replicate 32 0#8).map b8), .rd A 1 n c (xs.map b8)] ⟨by decide, rfl⟩ ?_
        refine T_seq ?_
        refine T_reg hF rfl ?_
        refine L_op rfl (op_pr (pr_move rfl rfl) rfl rfl ?_)
        refine L_op rfl (op_call0 (vs := [(b32 (ath (fil (schw (List.take 64 (List.drop (64 * k) (shamsg xs))) j) 64) (j - 2))), (.int .i64 ((17 : Nat) : Int))]) (cap := []) (fun w hw => turn_f (ath (fil (schw (List.take 64 (List.drop (64 * k) (shamsg xs))) j) 64) (j - 2)) 17 w (hok_nil w) sd sd) (enters_of Try.func40 (by kernel_rfl) rfl) rfl rfl rfl rfl rfl (fun t22 q23 => ?_))
        refine L_op rfl (op_pr (pr_move rfl rfl) rfl rfl ?_)
        refine L_op rfl (op_call0 (vs := [(b32 (ath (fil (schw (List.take 64 (List.drop (64 * k) (shamsg xs))) j) 64) (j - 2))), (.int .i64 ((19 : Nat) : Int))]) (cap := []) (fun w hw => turn_f (ath (fil (schw (List.take 64 (List.drop (64 * k) (shamsg xs))) j) 64) (j - 2)) 19 w (hok_nil w) sd sd) (enters_of Try.func40 (by kernel_rfl) rfl) rfl rfl rfl rfl rfl (fun t24 q25 => ?_))
        refine L_op rfl (op_pr (pr_xor (ib_xor32 _ _) rfl rfl rfl) rfl rfl ?_)
        refine L_op rfl (op_pr (pr_move rfl rfl) rfl rfl ?_)
        refine L_op rfl (op_pr (pr_shift (sh_shr32 (ath (fil (schw (List.take 64 (List.drop (64 * k) (shamsg xs))) j) 64) (j - 2)) _ 10) rfl rfl rfl rfl) rfl rfl ?_)
        refine L_op rfl (op_pr (pr_xor (ib_xor32 _ _) rfl rfl rfl) rfl rfl ?_)
        refine L_op rfl (op_pr (pr_assign rfl rfl) rfl rfl ?_)
        refine L_nil ?_
        refine T_re [(2, (.pointer (some ⟨g1, 0, none⟩))), (3, (.pointer (some ⟨g4, 0, none⟩))), (4, (.pointer (some ⟨g5, 0, none⟩))), (5, (.slice A12 (0 + n + (plen n)) C13)), (6, (.int .i64 ((64 * k : Nat) : Int))), (7, (.pointer (some ⟨g15, 0, none⟩))), (8, (.int .i64 ((j : Nat) : Int))), (12, (b32 (((ror32 (ath (fil (schw (List.take 64 (List.drop (64 * k) (shamsg xs))) j) 64) (j - 15)) 7) ^^^ (ror32 (ath (fil (schw (List.take 64 (List.drop (64 * k) (shamsg xs))) j) 64) (j - 15)) 18)) ^^^ ((ath (fil (schw (List.take 64 (List.drop (64 * k) (shamsg xs))) j) 64) (j - 15)) >>> 3)))), (13, (b32 (((ror32 (ath (fil (schw (List.take 64 (List.drop (64 * k) (shamsg xs))) j) 64) (j - 2)) 17) ^^^ (ror32 (ath (fil (schw (List.take 64 (List.drop (64 * k) (shamsg xs))) j) 64) (j - 2)) 19)) ^^^ ((ath (fil (schw (List.take 64 (List.drop (64 * k) (shamsg xs))) j) 64) (j - 2)) >>> 10))))] (sc rfl (sc rfl (sc rfl (sc rfl (sc rfl (sc rfl (sc rfl (sc rfl (sc rfl sn))))))))) ?_
        refine T_he [0, 1, 2, 3, 4, 5, 6] [.blk g15 33 ((fil (schw (List.take 64 (List.drop (64 * k) (shamsg xs))) j) 64).map b32), .row (.slice A12 (0 + n + (plen n)) C13) 5 1 (0 + n + (plen n)) ((xs ++ padb n).map b8), .row (.slice B10 (plen n) d11) 5 1 (plen n) ((padb n).map b8), .blk g5 55 ((hst (shamsg xs) k).map b32), .blk g4 33 (shaK.map b32), .blk g1 26 ((List.replicate 32 0#8).map b8), .rd A 1 n c (xs.map b8)] ⟨by decide, rfl⟩ ?_
        refine T_regD [.blk g15 33 ((fil (schw (List.take 64 (List.drop (64 * k) (shamsg xs))) j) 64).map b32), .row (.slice A12 (0 + n + (plen n)) C13) 5 1 (0 + n + (plen n)) ((xs ++ padb n).map b8), .row (.slice B10 (plen n) d11) 5 1 (plen n) ((padb n).map b8), .blk g5 55 ((hst (shamsg xs) k).map b32), .blk g4 33 (shaK.map b32), .blk g1 26 ((List.replicate 32 0#8).map b8), .rd A 1 n c (xs.map b8)] 15 16 #[false, false, false, false, false, false, false, false, false, false, false, false, false, false, false, false] hF (by kernel_rfl) (by kernel_rfl) ?_
        refine D_pure (i := 0) [0, 1, 2, 3, 4, 5, 6] rfl (by kernel_rfl) rfl (pr_move rfl rfl) (.inr rfl) rfl rfl ?_
        refine D_pure (i := 1) [0, 1, 2, 3, 4, 5, 6] rfl (by kernel_rfl) rfl (pr_move rfl rfl) (.inr rfl) rfl rfl ?_
        refine D_pure (i := 2) [0, 1, 2, 3, 4, 5, 6] rfl (by kernel_rfl) rfl (pr_move rfl rfl) (.inr rfl) rfl rfl ?_
        refine D_pure (i := 3) [0, 1, 2, 3, 4, 5, 6] rfl (by kernel_rfl) rfl (pr_sub (ns_i64 (a := j) (b := 7) sd sd) rfl rfl rfl) (.inr rfl) rfl rfl ?_
        refine D_pure (i := 4) [0, 1, 2, 3, 4, 5, 6] rfl (by kernel_rfl) rfl (pr_ixa (j := j - 7) (m' := j - 7) sd (by omega) Try.underlying33 (z := 1) (by kernel_rfl) rfl rfl rfl) (.inr rfl) rfl rfl ?_
        refine D_pure (i := 7) [0, 1, 2, 3, 4, 5, 6] rfl (by kernel_rfl) rfl (pr_move rfl rfl) (.inr rfl) rfl rfl ?_
        refine D_pure (i := 9) [0, 1, 2, 3, 4, 5, 6] rfl (by kernel_rfl) rfl (pr_move rfl rfl) (.inr rfl) rfl rfl ?_
        refine D_pure (i := 10) [0, 1, 2, 3, 4, 5, 6] rfl (by kernel_rfl) rfl (pr_sub (ns_i64 (a := j) (b := 16) sd sd) rfl rfl rfl) (.inr rfl) rfl rfl ?_
        refine D_pure (i := 11) [0, 1, 2, 3, 4, 5, 6] rfl (by kernel_rfl) rfl (pr_ixa (j := j - 16) (m' := j - 16) sd (by omega) Try.underlying33 (z := 1) (by kernel_rfl) rfl rfl rfl) (.inr rfl) rfl rfl ?_
        refine D_take (i := 5) [0, 1, 2, 3, 4, 5, 6] rfl (by kernel_rfl) rfl (ld_blk 0 rfl (get32 sd) Try.underlying32 rfl rfl rfl) rfl rfl rfl ?_
        refine D_pure (i := 6) [0, 1, 2, 3, 4, 5, 6] rfl (by kernel_rfl) rfl (pr_add (add32 _ _) rfl rfl rfl) (.inr rfl) rfl rfl ?_
        refine D_pure (i := 8) [0, 1, 2, 3, 4, 5, 6] rfl (by kernel_rfl) rfl (pr_add (add32 _ _) rfl rfl rfl) (.inr rfl) rfl rfl ?_
        refine D_take (i := 12) [0, 1, 2, 3, 4, 5, 6] rfl (by kernel_rfl) rfl (ld_blk 0 rfl (get32 sd) Try.underlying32 rfl rfl rfl) rfl rfl rfl ?_
        refine D_pure (i := 13) [0, 1, 2, 3, 4, 5, 6] rfl (by kernel_rfl) rfl (pr_add (add32 _ _) rfl rfl rfl) (.inr rfl) rfl rfl ?_
        refine D_pure (i := 14) [0, 1, 2, 3, 4, 5, 6] rfl (by kernel_rfl) rfl (pr_ixa (j := j) (m' := j) sd (by omega) Try.underlying33 (z := 1) (by kernel_rfl) rfl rfl rfl) (.inr rfl) rfl rfl ?_
        refine D_one 15 _ rfl (by kernel_rfl) rfl (op_store (vs := [(b32 ((((((ror32 (ath (fil (schw (List.take 64 (List.drop (64 * k) (shamsg xs))) j) 64) (j - 2)) 17) ^^^ (ror32 (ath (fil (schw (List.take 64 (List.drop (64 * k) (shamsg xs))) j) 64) (j - 2)) 19)) ^^^ ((ath (fil (schw (List.take 64 (List.drop (64 * k) (shamsg xs))) j) 64) (j - 2)) >>> 10)) + (ath (fil (schw (List.take 64 (List.drop (64 * k) (shamsg xs))) j) 64) (j - 7))) + (((ror32 (ath (fil (schw (List.take 64 (List.drop (64 * k) (shamsg xs))) j) 64) (j - 15)) 7) ^^^ (ror32 (ath (fil (schw (List.take 64 (List.drop (64 * k) (shamsg xs))) j) 64) (j - 15)) 18)) ^^^ ((ath (fil (schw (List.take 64 (List.drop (64 * k) (shamsg xs))) j) 64) (j - 15)) >>> 3))) + (ath (fil (schw (List.take 64 (List.drop (64 * k) (shamsg xs))) j) 64) (j - 16))))]) (cs' := ((List.set (fil (schw (List.take 64 (List.drop (64 * k) (shamsg xs))) j) 64) j ((((((ror32 (ath (fil (schw (List.take 64 (List.drop (64 * k) (shamsg xs))) j) 64) (j - 2)) 17) ^^^ (ror32 (ath (fil (schw (List.take 64 (List.drop (64 * k) (shamsg xs))) j) 64) (j - 2)) 19)) ^^^ ((ath (fil (schw (List.take 64 (List.drop (64 * k) (shamsg xs))) j) 64) (j - 2)) >>> 10)) + (ath (fil (schw (List.take 64 (List.drop (64 * k) (shamsg xs))) j) 64) (j - 7))) + (((ror32 (ath (fil (schw (List.take 64 (List.drop (64 * k) (shamsg xs))) j) 64) (j - 15)) 7) ^^^ (ror32 (ath (fil (schw (List.take 64 (List.drop (64 * k) (shamsg xs))) j) 64) (j - 15)) 18)) ^^^ ((ath (fil (schw (List.take 64 (List.drop (64 * k) (shamsg xs))) j) 64) (j - 15)) >>> 3))) + (ath (fil (schw (List.take 64 (List.drop (64 * k) (shamsg xs))) j) 64) (j - 16)))).map b32)) 0 rfl rfl (by kernel_rfl) (one_one rfl) (by have : j < ((fil (schw (List.take 64 (List.drop (64 * k) (shamsg xs))) j) 64)).length := sd; simp only [List.length_map, List.length_singleton]; omega) (splice_map (f := b32) sd) rfl rfl rfl rfl ?_)
        refine D_past (by kernel_rfl) ?_
        refine D_done (by kernel_rfl) ?_
        refine T_re [(2, (.pointer (some ⟨g1, 0, none⟩))), (3, (.pointer (some ⟨g4, 0, none⟩))), (4, (.pointer (some ⟨g5, 0, none⟩))), (5, (.slice A12 (0 + n + (plen n)) C13)), (6, (.int .i64 ((64 * k : Nat) : Int))), (7, (.pointer (some ⟨g15, 0, none⟩))), (8, (.int .i64 ((j : Nat) : Int)))] (sc rfl (sc rfl (sc rfl (sc rfl (sc rfl (sc rfl (sc rfl sn))))))) ?_
        refine T_he [0, 1, 2, 3, 4, 5, 6] [.blk g15 33 ((List.set (fil (schw (List.take 64 (List.drop (64 * k) (shamsg xs))) j) 64) j ((((((ror32 (ath (fil (schw (List.take 64 (List.drop (64 * k) (shamsg xs))) j) 64) (j - 2)) 17) ^^^ (ror32 (ath (fil (schw (List.take 64 (List.drop (64 * k) (shamsg xs))) j) 64) (j - 2)) 19)) ^^^ ((ath (fil (schw (List.take 64 (List.drop (64 * k) (shamsg xs))) j) 64) (j - 2)) >>> 10)) + (ath (fil (schw (List.take 64 (List.drop (64 * k) (shamsg xs))) j) 64) (j - 7))) + (((ror32 (ath (fil (schw (List.take 64 (List.drop (64 * k) (shamsg xs))) j) 64) (j - 15)) 7) ^^^ (ror32 (ath (fil (schw (List.take 64 (List.drop (64 * k) (shamsg xs))) j) 64) (j - 15)) 18)) ^^^ ((ath (fil (schw (List.take 64 (List.drop (64 * k) (shamsg xs))) j) 64) (j - 15)) >>> 3))) + (ath (fil (schw (List.take 64 (List.drop (64 * k) (shamsg xs))) j) 64) (j - 16)))).map b32), .row (.slice A12 (0 + n + (plen n)) C13) 5 1 (0 + n + (plen n)) ((xs ++ padb n).map b8), .row (.slice B10 (plen n) d11) 5 1 (plen n) ((padb n).map b8), .blk g5 55 ((hst (shamsg xs) k).map b32), .blk g4 33 (shaK.map b32), .blk g1 26 ((List.replicate 32 0#8).map b8), .rd A 1 n c (xs.map b8)] ⟨by decide, rfl⟩ ?_
        refine T_reg hF rfl ?_
        refine L_op rfl (op_pr (pr_move rfl rfl) rfl rfl ?_)
        refine L_op rfl (op_pr (pr_add (na_i64 (a := j) (b := 1) sd) rfl rfl rfl) rfl rfl ?_)
        refine L_op rfl (op_pr (pr_assign rfl rfl) rfl rfl ?_)
        refine L_nil ?_
        refine T_re [(2, (.pointer (some ⟨g1, 0, none⟩))), (3, (.pointer (some ⟨g4, 0, none⟩))), (4, (.pointer (some ⟨g5, 0, none⟩))), (5, (.slice A12 (0 + n + (plen n)) C13)), (6, (.int .i64 ((64 * k : Nat) : Int))), (7, (.pointer (some ⟨g15, 0, none⟩))), (8, (.int .i64 ((j + 1 : Nat) : Int)))] (sc rfl (sc rfl (sc rfl (sc rfl (sc rfl (sc rfl (sc rfl sn))))))) ?_
        refine T_he [0, 1, 2, 3, 4, 5, 6] [.blk g15 33 ((List.set (fil (schw (List.take 64 (List.drop (64 * k) (shamsg xs))) j) 64) j ((((((ror32 (ath (fil (schw (List.take 64 (List.drop (64 * k) (shamsg xs))) j) 64) (j - 2)) 17) ^^^ (ror32 (ath (fil (schw (List.take 64 (List.drop (64 * k) (shamsg xs))) j) 64) (j - 2)) 19)) ^^^ ((ath (fil (schw (List.take 64 (List.drop (64 * k) (shamsg xs))) j) 64) (j - 2)) >>> 10)) + (ath (fil (schw (List.take 64 (List.drop (64 * k) (shamsg xs))) j) 64) (j - 7))) + (((ror32 (ath (fil (schw (List.take 64 (List.drop (64 * k) (shamsg xs))) j) 64) (j - 15)) 7) ^^^ (ror32 (ath (fil (schw (List.take 64 (List.drop (64 * k) (shamsg xs))) j) 64) (j - 15)) 18)) ^^^ ((ath (fil (schw (List.take 64 (List.drop (64 * k) (shamsg xs))) j) 64) (j - 15)) >>> 3))) + (ath (fil (schw (List.take 64 (List.drop (64 * k) (shamsg xs))) j) 64) (j - 16)))).map b32), .row (.slice A12 (0 + n + (plen n)) C13) 5 1 (0 + n + (plen n)) ((xs ++ padb n).map b8), .row (.slice B10 (plen n) d11) 5 1 (plen n) ((padb n).map b8), .blk g5 55 ((hst (shamsg xs) k).map b32), .blk g4 33 (shaK.map b32), .blk g1 26 ((List.replicate 32 0#8).map b8), .rd A 1 n c (xs.map b8)] ⟨by decide, rfl⟩ ?_
        refine T_as 0 (.blk g15 33 ((List.set (fil (schw (List.take 64 (List.drop (64 * k) (shamsg xs))) j) 64) j ((((((ror32 (ath (fil (schw (List.take 64 (List.drop (64 * k) (shamsg xs))) j) 64) (j - 2)) 17) ^^^ (ror32 (ath (fil (schw (List.take 64 (List.drop (64 * k) (shamsg xs))) j) 64) (j - 2)) 19)) ^^^ ((ath (fil (schw (List.take 64 (List.drop (64 * k) (shamsg xs))) j) 64) (j - 2)) >>> 10)) + (ath (fil (schw (List.take 64 (List.drop (64 * k) (shamsg xs))) j) 64) (j - 7))) + (((ror32 (ath (fil (schw (List.take 64 (List.drop (64 * k) (shamsg xs))) j) 64) (j - 15)) 7) ^^^ (ror32 (ath (fil (schw (List.take 64 (List.drop (64 * k) (shamsg xs))) j) 64) (j - 15)) 18)) ^^^ ((ath (fil (schw (List.take 64 (List.drop (64 * k) (shamsg xs))) j) 64) (j - 15)) >>> 3))) + (ath (fil (schw (List.take 64 (List.drop (64 * k) (shamsg xs))) j) 64) (j - 16)))).map b32)) (.blk g15 33 ((fil (schw (List.take 64 (List.drop (64 * k) (shamsg xs))) (j + 1)) 64).map b32)) rfl (by rw [sig0_def, sig1_def, schw_hi (List.take 64 (List.drop (64 * k) (shamsg xs))) j (by omega) (by omega) _ (by ac_rfl)]) ?_
        exact T_again (j + 1) (by first | trivial | ((try dsimp only); first | omega | (refine ⟨?_, ?_⟩ <;> omega) | (refine ⟨?_, ?_, ?_⟩ <;> omega) | (simp; done) | (simp; omega))) (by first | trivial | ((try dsimp only); first | omega | (refine ⟨?_, ?_⟩ <;> omega) | (refine ⟨?_, ?_, ?_⟩ <;> omega) | (simp; done) | (simp; omega))) (sc rfl (sc rfl (sc rfl (sc rfl (sc rfl (sc rfl (sc rfl sn))))))) [0, 1, 2, 3, 4, 5, 6] ⟨by decide, rfl⟩
    · skip
      have hc_16 := of_decide_eq_false hc_16
      refine T_exit rfl ?_
      obtain rfl : 64 = j := by omega
      refine T_seq ?_
      refine T_reg hF rfl ?_
      refine L_op rfl (op_ld (ld_agg (ds := ((hst (shamsg xs) k).map b32)) 3 rfl agg_all Try.underlying55 rfl (by rw [show (((hst (shamsg xs) k).map b32)).length = 8 from sd]; kernel_rfl) rfl rfl) rfl rfl ?_)
      refine L_op rfl (op_alloc (z := .agg [(b32 (0#32)), (b32 (0#32)), (b32 (0#32)), (b32 (0#32)), (b32 (0#32)), (b32 (0#32)), (b32 (0#32)), (b32 (0#32))].toArray) (zs := [(b32 (0#32)), (b32 (0#32)), (b32 (0#32)), (b32 (0#32)), (b32 (0#32)), (b32 (0#32)), (b32 (0#32)), (b32 (0#32))]) (by kernel_rfl) rfl rfl rfl rfl (fun g26 => ?_))
      refine L_op rfl (op_store (vs := ((hst (shamsg xs) k).map b32)) (cs' := ((hst (shamsg xs) k).map b32)) 0 rfl rfl (by rw [show (((hst (shamsg xs) k).map b32)).length = 8 from sd]; kernel_rfl) (all32_one _) (by have h1 : ([(b32 (0#32)), (b32 (0#32)), (b32 (0#32)), (b32 (0#32)), (b32 (0#32)), (b32 (0#32)), (b32 (0#32)), (b32 (0#32))]).length = 8 := (by kernel_rfl); have h2 : (((hst (shamsg xs) k).map b32)).length = 8 := sd; omega) (splice_all (Eq.trans (b := 8) (by kernel_rfl) (Eq.symm sd))) rfl rfl rfl rfl ?_)
      refine L_nil ?_
      refine T_re [(2, (.pointer (some ⟨g1, 0, none⟩))), (3, (.pointer (some ⟨g4, 0, none⟩))), (4, (.pointer (some ⟨g5, 0, none⟩))), (5, (.slice A12 (0 + n + (plen n)) C13)), (6, (.int .i64 ((64 * k : Nat) : Int))), (7, (.pointer (some ⟨g15, 0, none⟩))), (14, (.pointer (some ⟨g26, 0, none⟩)))] (sc rfl (sc rfl (sc rfl (sc rfl (sc rfl (sc rfl (sc rfl sn))))))) ?_
      refine T_he [0, 1, 2, 3, 4, 5, 6, 7] [.blk g26 55 ((hst (shamsg xs) k).map b32), .blk g15 33 ((fil (schw (List.take 64 (List.drop (64 * k) (shamsg xs))) 64) 64).map b32), .row (.slice A12 (0 + n + (plen n)) C13) 5 1 (0 + n + (plen n)) ((xs ++ padb n).map b8), .row (.slice B10 (plen n) d11) 5 1 (plen n) ((padb n).map b8), .blk g5 55 ((hst (shamsg xs) k).map b32), .blk g4 33 (shaK.map b32), .blk g1 26 ((List.replicate 32 0#8).map b8), .rd A 1 n c (xs.map b8)] ⟨by decide, rfl⟩ ?_
      refine T_seq ?_
      refine T_seq ?_
      refine T_reg hF rfl ?_
      refine L_op rfl (op_pr (pr_assign rfl rfl) rfl rfl ?_)
      refine L_nil ?_
      refine T_re [(2, (.pointer (some ⟨g1, 0, none⟩))), (3, (.pointer (some ⟨g4, 0, none⟩))), (4, (.pointer (some ⟨g5, 0, none⟩))), (5, (.slice A12 (0 + n + (plen n)) C13)), (6, (.int .i64 ((64 * k : Nat) : Int))), (7, (.pointer (some ⟨g15, 0, none⟩))), (14, (.pointer (some ⟨g26, 0, none⟩))), (15, (.int .i64 ((0 : Nat) : Int)))] (sc rfl (sc rfl (sc rfl (sc rfl (sc rfl (sc rfl (sc rfl (sc rfl sn)))))))) ?_
      refine T_he [0, 1, 2, 3, 4, 5, 6, 7] [.blk g26 55 ((hst (shamsg xs) k).map b32), .blk g15 33 ((fil (schw (List.take 64 (List.drop (64 * k) (shamsg xs))) 64) 64).map b32), .row (.slice A12 (0 + n + (plen n)) C13) 5 1 (0 + n + (plen n)) ((xs ++ padb n).map b8), .row (.slice B10 (plen n) d11) 5 1 (plen n) ((padb n).map b8), .blk g5 55 ((hst (shamsg xs) k).map b32), .blk g4 33 (shaK.map b32), .blk g1 26 ((List.replicate 32 0#8).map b8), .rd A 1 n c (xs.map b8)] ⟨by decide, rfl⟩ ?_
      refine T_block ?_
      refine T_as 0 (.blk g26 55 ((hst (shamsg xs) k).map b32)) (.blk g26 55 ((rounds (hst (shamsg xs) k) (schw (List.take 64 (List.drop (64 * k) (shamsg xs))) 64) 0).map b32)) rfl (by rw [rounds_zero]) ?_
      refine T_as 1 (.blk g15 33 ((fil (schw (List.take 64 (List.drop (64 * k) (shamsg xs))) 64) 64).map b32)) (.blk g15 33 ((schw (List.take 64 (List.drop (64 * k) (shamsg xs))) 64).map b32)) rfl (by rw [fil_all]) ?_
      refine T_loop (T := Nat) (fun i => i ≤ 64) (fun i => [(2, (.pointer (some ⟨g1, 0, none⟩))), (3, (.pointer (some ⟨g4, 0, none⟩))), (4, (.pointer (some ⟨g5, 0, none⟩))), (5, (.slice A12 (0 + n + (plen n)) C13)), (6, (.int .i64 ((64 * k : Nat) : Int))), (7, (.pointer (some ⟨g15, 0, none⟩))), (14, (.pointer (some ⟨g26, 0, none⟩))), (15, (.int .i64 ((i : Nat) : Int)))]) (fun i => [.blk g26 55 ((rounds (hst (shamsg xs) k) (schw (List.take 64 (List.drop (64 * k) (shamsg xs))) 64) i).map b32), .blk g15 33 ((schw (List.take 64 (List.drop (64 * k) (shamsg xs))) 64).map b32), .row (.slice A12 (0 + n + (plen n)) C13) 5 1 (0 + n + (plen n)) ((xs ++ padb n).map b8), .row (.slice B10 (plen n) d11) 5 1 (plen n) ((padb n).map b8), .blk g5 55 ((hst (shamsg xs) k).map b32), .blk g4 33 (shaK.map b32), .blk g1 26 ((List.replicate 32 0#8).map b8), .rd A 1 n c (xs.map b8)]) (fun i => 64 - i) 0 (by first | trivial | ((try dsimp only); first | omega | (refine ⟨?_, ?_⟩ <;> omega) | (refine ⟨?_, ?_, ?_⟩ <;> omega) | (simp; done) | (simp; omega))) (sc rfl (sc rfl (sc rfl (sc rfl (sc rfl (sc rfl (sc rfl (sc rfl sn)))))))) [1, 0, 2, 3, 4, 5, 6, 7] ⟨by decide, rfl⟩ ?_
      rintro i hp
      have hp : i ≤ 64 := hp
      have hrk := rounds_len (hst (shamsg xs) k) (schw (List.take 64 (List.drop (64 * k) (shamsg xs))) 64) hk8 i
      refine T_re [(2, (.pointer (some ⟨g1, 0, none⟩))), (3, (.pointer (some ⟨g4, 0, none⟩))), (4, (.pointer (some ⟨g5, 0, none⟩))), (5, (.slice A12 (0 + n + (plen n)) C13)), (6, (.int .i64 ((64 * k : Nat) : Int))), (7, (.pointer (some ⟨g15, 0, none⟩))), (14, (.pointer (some ⟨g26, 0, none⟩))), (15, (.int .i64 ((i : Nat) : Int)))] (sc rfl (sc rfl (sc rfl (sc rfl (sc rfl (sc rfl (sc rfl (sc rfl sn)))))))) ?_
      refine T_he [0, 1, 2, 3, 4, 5, 6, 7] [.blk g26 55 ((rounds (hst (shamsg xs) k) (schw (List.take 64 (List.drop (64 * k) (shamsg xs))) 64) i).map b32), .blk g15 33 ((schw (List.take 64 (List.drop (64 * k) (shamsg xs))) 64).map b32), .row (.slice A12 (0 + n + (plen n)) C13) 5 1 (0 + n + (plen n)) ((xs ++ padb n).map b8), .row (.slice B10 (plen n) d11) 5 1 (plen n) ((padb n).map b8), .blk g5 55 ((hst (shamsg xs) k).map b32), .blk g4 33 (shaK.map b32), .blk g1 26 ((List.replicate 32 0#8).map b8), .rd A 1 n c (xs.map b8)] ⟨by decide, rfl⟩ ?_
      refine T_seq ?_
      refine T_seq ?_
      refine T_reg hF rfl ?_
      refine L_op rfl (op_pr (pr_move rfl rfl) rfl rfl ?_)
      refine L_op rfl (op_pr (pr_cmp (bo := .lss) (nc_lt (a := i) (b := 64)) rfl rfl rfl rfl) rfl rfl ?_)
      refine L_nil ?_
      refine T_re [(2, (.pointer (some ⟨g1, 0, none⟩))), (3, (.pointer (some ⟨g4, 0, none⟩))), (4, (.pointer (some ⟨g5, 0, none⟩))), (5, (.slice A12 (0 + n + (plen n)) C13)), (6, (.int .i64 ((64 * k : Nat) : Int))), (7, (.pointer (some ⟨g15, 0, none⟩))), (14, (.pointer (some ⟨g26, 0, none⟩))), (15, (.int .i64 ((i : Nat) : Int))), (120, (.bool (decide (i < 64))))] (sc rfl (sc rfl (sc rfl (sc rfl (sc rfl (sc rfl (sc rfl (sc rfl (sc rfl sn))))))))) ?_
      refine T_he [0, 1, 2, 3, 4, 5, 6, 7] [.blk g26 55 ((rounds (hst (shamsg xs) k) (schw (List.take 64 (List.drop (64 * k) (shamsg xs))) 64) i).map b32), .blk g15 33 ((schw (List.take 64 (List.drop (64 * k) (shamsg xs))) 64).map b32), .row (.slice A12 (0 + n + (plen n)) C13) 5 1 (0 + n + (plen n)) ((xs ++ padb n).map b8), .row (.slice B10 (plen n) d11) 5 1 (plen n) ((padb n).map b8), .blk g5 55 ((hst (shamsg xs) k).map b32), .blk g4 33 (shaK.map b32), .blk g1 26 ((List.replicate 32 0#8).map b8), .rd A 1 n c (xs.map b8)] ⟨by decide, rfl⟩ ?_
      refine T_cond (decide (i < 64)) rfl (fun hc_27 => ?_) (fun hc_27 => ?_)
      · skip
        have hc_27 := of_decide_eq_true hc_27
        refine T_skip ?_
        refine T_seq ?_
        refine T_block ?_
        refine T_seq ?_
        refine T_regD [.blk g26 55 ((rounds (hst (shamsg xs) k) (schw (List.take 64 (List.drop (64 * k) (shamsg xs))) 64) i).map b32), .blk g15 33 ((schw (List.take 64 (List.drop (64 * k) (shamsg xs))) 64).map b32), .row (.slice A12 (0 + n + (plen n)) C13) 5 1 (0 + n + (plen n)) ((xs ++ padb n).map b8), .row (.slice B10 (plen n) d11) 5 1 (plen n) ((padb n).map b8), .blk g5 55 ((hst (shamsg xs) k).map b32), .blk g4 33 (shaK.map b32), .blk g1 26 ((List.replicate 32 0#8).map b8), .rd A 1 n c (xs.map b8)] 12 12 #[false, false, false, false, false, false, false, false, false, false, false, false] hF (by kernel_rfl) (by kernel_rfl) ?_
        refine D_pure (i := 0) [0, 1, 2, 3, 4, 5, 6, 7] rfl (by kernel_rfl) rfl (pr_ixa (j := 4) (m' := 4) sd (by omega) Try.underlying55 (z := 1) (by kernel_rfl) rfl rfl rfl) (.inr rfl) rfl rfl ?_
        refine D_pure (i := 3) [0, 1, 2, 3, 4, 5, 6, 7] rfl (by kernel_rfl) rfl (pr_ixa (j := 4) (m' := 4) sd (by omega) Try.underlying55 (z := 1) (by kernel_rfl) rfl rfl rfl) (.inr rfl) rfl rfl ?_
        refine D_pure (i := 7) [0, 1, 2, 3, 4, 5, 6, 7] rfl (by kernel_rfl) rfl (pr_ixa (j := 4) (m' := 4) sd (by omega) Try.underlying55 (z := 1) (by kernel_rfl) rfl rfl rfl) (.inr rfl) rfl rfl ?_
        refine D_take (i := 1) [0, 1, 2, 3, 4, 5, 6, 7] rfl (by kernel_rfl) rfl (ld_blk 0 rfl (get32 sd) Try.underlying32 rfl rfl rfl) rfl rfl rfl ?_
        refine D_take (i := 4) [0, 1, 2, 3, 4, 5, 6, 7] rfl (by kernel_rfl) rfl (ld_blk 0 rfl (get32 sd) Try.underlying32 rfl rfl rfl) rfl rfl rfl ?_
        refine D_take (i := 8) [0, 1, 2, 3, 4, 5, 6, 7] rfl (by kernel_rfl) rfl (ld_blk 0 rfl (get32 sd) Try.underlying32 rfl rfl rfl) rfl rfl rfl ?_
        refine D_one 2 _ rfl (by kernel_rfl) rfl (op_call0 (vs := [(b32 (ath (rounds (hst (shamsg xs) k) (schw (List.take 64 (List.drop (64 * k) (shamsg xs))) 64) i) 4)), (.int .i64 ((6 : Nat) : Int))]) (cap := []) (fun w hw => turn_f (ath (rounds (hst (shamsg xs) k) (schw (List.take 64 (List.drop (64 * k) (shamsg xs))) 64) i) 4) 6 w (hok_nil w) sd sd) (enters_of Try.func40 (by kernel_rfl) rfl) rfl rfl rfl rfl rfl (fun t28 q29 => ?_))
        refine D_on [0, 1, 2, 3, 4, 5, 6, 7] rfl ?_
        refine D_one 5 _ rfl (by kernel_rfl) rfl (op_call0 (vs := [(b32 (ath (rounds (hst (shamsg xs) k) (schw (List.take 64 (List.drop (64 * k) (shamsg xs))) 64) i) 4)), (.int .i64 ((11 : Nat) : Int))]) (cap := []) (fun w hw => turn_f (ath (rounds (hst (shamsg xs) k) (schw (List.take 64 (List.drop (64 * k) (shamsg xs))) 64) i) 4) 11 w (hok_nil w) sd sd) (enters_of Try.func40 (by kernel_rfl) rfl) rfl rfl rfl rfl rfl (fun t30 q31 => ?_))
        refine D_on [0, 1, 2, 3, 4, 5, 6, 7] rfl ?_
        refine D_pure (i := 6) [0, 1, 2, 3, 4, 5, 6, 7] rfl (by kernel_rfl) rfl (pr_xor (ib_xor32 _ _) rfl rfl rfl) (.inr rfl) rfl rfl ?_
        refine D_one 9 _ rfl (by kernel_rfl) rfl (op_call0 (vs := [(b32 (ath (rounds (hst (shamsg xs) k) (schw (List.take 64 (List.drop (64 * k) (shamsg xs))) 64) i) 4)), (.int .i64 ((25 : Nat) : Int))]) (cap := []) (fun w hw => turn_f (ath (rounds (hst (shamsg xs) k) (schw (List.take 64 (List.drop (64 * k) (shamsg xs))) 64) i) 4) 25 w (hok_nil w) sd sd) (enters_of Try.func40 (by kernel_rfl) rfl) rfl rfl rfl rfl rfl (fun t32 q33 => ?_))
        refine D_on [0, 1, 2, 3, 4, 5, 6, 7] rfl ?_
        refine D_pure (i := 10) [0, 1, 2, 3, 4, 5, 6, 7] rfl (by kernel_rfl) rfl (pr_xor (ib_xor32 _ _) rfl rfl rfl) (.inr rfl) rfl rfl ?_
        refine D_pure (i := 11) [0, 1, 2, 3, 4, 5, 6, 7] rfl (by kernel_rfl) rfl (pr_assign rfl rfl) (.inr rfl) rfl rfl ?_
        refine D_done (by kernel_rfl) ?_
        refine T_re [(2, (.pointer (some ⟨g1, 0, none⟩))), (3, (.pointer (some ⟨g4, 0, none⟩))), (4, (.pointer (some ⟨g5, 0, none⟩))), (5, (.slice A12 (0 + n + (plen n)) C13)), (6, (.int .i64 ((64 * k : Nat) : Int))), (7, (.pointer (some ⟨g15, 0, none⟩))), (14, (.pointer (some ⟨g26, 0, none⟩))), (15, (.int .i64 ((i : Nat) : Int))), (16, (b32 (((ror32 (ath (rounds (hst (shamsg xs) k) (schw (List.take 64 (List.drop (64 * k) (shamsg xs))) 64) i) 4) 6) ^^^ (ror32 (ath (rounds (hst (shamsg xs) k) (schw (List.take 64 (List.drop (64 * k) (shamsg xs))) 64) i) 4) 11)) ^^^ (ror32 (ath (rounds (hst (shamsg xs) k) (schw (List.take 64 (List.drop (64 * k) (shamsg xs))) 64) i) 4) 25))))] (sc rfl (sc rfl (sc rfl (sc rfl (sc rfl (sc rfl (sc rfl (sc rfl (sc rfl sn))))))))) ?_
        refine T_he [0, 1, 2, 3, 4, 5, 6, 7] [.blk g26 55 ((rounds (hst (shamsg xs) k) (schw (List.take 64 (List.drop (64 * k) (shamsg xs))) 64) i).map b32), .blk g15 33 ((schw (List.take 64 (List.drop (64 * k) (shamsg xs))) 64).map b32), .row (.slice A12 (0 + n + (plen n)) C13) 5 1 (0 + n + (plen n)) ((xs ++ padb n).map b8), .row (.slice B10 (plen n) d11) 5 1 (plen n) ((padb n).map b8), .blk g5 55 ((hst (shamsg xs) k).map b32), .blk g4 33 (shaK.map b32), .blk g1 26 ((List.replicate 32 0#8).map b8), .rd A 1 n c (xs.map b8)] ⟨by decide, rfl⟩ ?_
        refine T_seq ?_
        refine T_reg hF rfl ?_
        refine L_op rfl (op_pr (pr_ixa (j := 4) (m' := 4) sd (by omega) Try.underlying55 (z := 1) (by kernel_rfl) rfl rfl rfl) rfl rfl ?_)
        refine L_op rfl (op_ld (ld_blk 0 rfl (get32 sd) Try.underlying32 rfl rfl rfl) rfl rfl ?_)
        refine L_op rfl (op_pr (pr_ixa (j := 5) (m' := 5) sd (by omega) Try.underlying55 (z := 1) (by kernel_rfl) rfl rfl rfl) rfl rfl ?_)
        refine L_op rfl (op_ld (ld_blk 0 rfl (get32 sd) Try.underlying32 rfl rfl rfl) rfl rfl ?_)
        refine L_op rfl (op_pr (pr_and (ib_and32 _ _) rfl rfl rfl) rfl rfl ?_)
        refine L_op rfl (op_pr (pr_ixa (j := 4) (m' := 4) sd (by omega) Try.underlying55 (z := 1) (by kernel_rfl) rfl rfl rfl) rfl rfl ?_)
        refine L_op rfl (op_ld (ld_blk 0 rfl (get32 sd) Try.underlying32 rfl rfl rfl) rfl rfl ?_)
        refine L_op rfl (op_pr (pr_un (not32 _) rfl rfl) rfl rfl ?_)
        refine L_op rfl (op_pr (pr_ixa (j := 6) (m' := 6) sd (by omega) Try.underlying55 (z := 1) (by kernel_rfl) rfl rfl rfl) rfl rfl ?_)
        refine L_op rfl (op_ld (ld_blk 0 rfl (get32 sd) Try.underlying32 rfl rfl rfl) rfl rfl ?_)
        refine L_op rfl (op_pr (pr_and (ib_and32 _ _) rfl rfl rfl) rfl rfl ?_)
        refine L_op rfl (op_pr (pr_xor (ib_xor32 _ _) rfl rfl rfl) rfl rfl ?_)
        refine L_op rfl (op_pr (pr_assign rfl rfl) rfl rfl ?_)
        refine L_nil ?_
        refine T_re [(2, (.pointer (some ⟨g1, 0, none⟩))), (3, (.pointer (some ⟨g4, 0, none⟩))), (4, (.pointer (some ⟨g5, 0, none⟩))), (5, (.slice A12 (0 + n + (plen n)) C13)), (6, (.int .i64 ((64 * k : Nat) : Int))), (7, (.pointer (some ⟨g15, 0, none⟩))), (14, (.pointer (some ⟨g26, 0, none⟩))), (15, (.int .i64 ((i : Nat) : Int))), (16, (b32 (((ror32 (ath (rounds (hst (shamsg xs) k) (schw (List.take 64 (List.drop (64 * k) (shamsg xs))) 64) i) 4) 6) ^^^ (ror32 (ath (rounds (hst (shamsg xs) k) (schw (List.take 64 (List.drop (64 * k) (shamsg xs))) 64) i) 4) 11)) ^^^ (ror32 (ath (rounds (hst (shamsg xs) k) (schw (List.take 64 (List.drop (64 * k) (shamsg xs))) 64) i) 4) 25)))), (17, (b32 (((ath (rounds (hst (shamsg xs) k) (schw (List.take 64 (List.drop (64 * k) (shamsg xs))) 64) i) 4) &&& (ath (rounds (hst (shamsg xs) k) (schw (List.take 64 (List.drop (64 * k) (shamsg xs))) 64) i) 5)) ^^^ ((~~~(ath (rounds (hst (shamsg xs) k) (schw (List.take 64 (List.drop (64 * k) (shamsg xs))) 64) i) 4)) &&& (ath (rounds (hst (shamsg xs) k) (schw (List.take 64 (List.drop (64 * k) (shamsg xs))) 64) i) 6)))))] (sc rfl (sc rfl (sc rfl (sc rfl (sc rfl (sc rfl (sc rfl (sc rfl (sc rfl (sc rfl sn)))))))))) ?_
        refine T_he [0, 1, 2, 3, 4, 5, 6, 7] [.blk g26 55 ((rounds (hst (shamsg xs) k) (schw (List.take 64 (List.drop (64 * k) (shamsg xs))) 64) i).map b32), .blk g15 33 ((schw (List.take 64 (List.drop (64 * k) (shamsg xs))) 64).map b32), .row (.slice A12 (0 + n + (plen n)) C13) 5 1 (0 + n + (plen n)) ((xs ++ padb n).map b8), .row (.slice B10 (plen n) d11) 5 1 (plen n) ((padb n).map b8), .blk g5 55 ((hst (shamsg xs) k).map b32), .blk g4 33 (shaK.map b32), .blk g1 26 ((List.replicate 32 0#8).map b8), .rd A 1 n c (xs.map b8)] ⟨by decide, rfl⟩ ?_
        refine T_seq ?_
        refine T_regD [.blk g26 55 ((rounds (hst (shamsg xs) k) (schw (List.take 64 (List.drop (64 * k) (shamsg xs))) 64) i).map b32), .blk g15 33 ((schw (List.take 64 (List.drop (64 * k) (shamsg xs))) 64).map b32), .row (.slice A12 (0 + n + (plen n)) C13) 5 1 (0 + n + (plen n)) ((xs ++ padb n).map b8), .row (.slice B10 (plen n) d11) 5 1 (plen n) ((padb n).map b8), .blk g5 55 ((hst (shamsg xs) k).map b32), .blk g4 33 (shaK.map b32), .blk g1 26 ((List.replicate 32 0#8).map b8), .rd A 1 n c (xs.map b8)] 15 15 #[false, false, false, false, false, false, false, false, false, false, false, false, false, false, false] hF (by kernel_rfl) (by kernel_rfl) ?_
        refine D_pure (i := 0) [0, 1, 2, 3, 4, 5, 6, 7] rfl (by kernel_rfl) rfl (pr_ixa (j := 7) (m' := 7) sd (by omega) Try.underlying55 (z := 1) (by kernel_rfl) rfl rfl rfl) (.inr rfl) rfl rfl ?_
        refine D_pure (i := 2) [0, 1, 2, 3, 4, 5, 6, 7] rfl (by kernel_rfl) rfl (pr_move rfl rfl) (.inr rfl) rfl rfl ?_
        refine D_pure (i := 4) [0, 1, 2, 3, 4, 5, 6, 7] rfl (by kernel_rfl) rfl (pr_move rfl rfl) (.inr rfl) rfl rfl ?_
        refine D_pure (i := 6) [0, 1, 2, 3, 4, 5, 6, 7] rfl (by kernel_rfl) rfl (pr_move rfl rfl) (.inr rfl) rfl rfl ?_
        refine D_pure (i := 7) [0, 1, 2, 3, 4, 5, 6, 7] rfl (by kernel_rfl) rfl (pr_ixa (j := i) (m' := i) sd (by omega) Try.underlying33 (z := 1) (by kernel_rfl) rfl rfl rfl) (.inr rfl) rfl rfl ?_
        refine D_pure (i := 10) [0, 1, 2, 3, 4, 5, 6, 7] rfl (by kernel_rfl) rfl (pr_move rfl rfl) (.inr rfl) rfl rfl ?_
        refine D_pure (i := 11) [0, 1, 2, 3, 4, 5, 6, 7] rfl (by kernel_rfl) rfl (pr_ixa (j := i) (m' := i) sd (by omega) Try.underlying33 (z := 1) (by kernel_rfl) rfl rfl rfl) (.inr rfl) rfl rfl ?_
        refine D_take (i := 1) [0, 1, 2, 3, 4, 5, 6, 7] rfl (by kernel_rfl) rfl (ld_blk 0 rfl (get32 sd) Try.underlying32 rfl rfl rfl) rfl rfl rfl ?_
        refine D_pure (i := 3) [0, 1, 2, 3, 4, 5, 6, 7] rfl (by kernel_rfl) rfl (pr_add (add32 _ _) rfl rfl rfl) (.inr rfl) rfl rfl ?_
        refine D_pure (i := 5) [0, 1, 2, 3, 4, 5, 6, 7] rfl (by kernel_rfl) rfl (pr_add (add32 _ _) rfl rfl rfl) (.inr rfl) rfl rfl ?_
        refine D_take (i := 8) [0, 1, 2, 3, 4, 5, 6, 7] rfl (by kernel_rfl) rfl (ld_blk 5 rfl (get32 sd) Try.underlying32 rfl rfl rfl) rfl rfl rfl ?_
        refine D_pure (i := 9) [0, 1, 2, 3, 4, 5, 6, 7] rfl (by kernel_rfl) rfl (pr_add (add32 _ _) rfl rfl rfl) (.inr rfl) rfl rfl ?_
        refine D_take (i := 12) [0, 1, 2, 3, 4, 5, 6, 7] rfl (by kernel_rfl) rfl (ld_blk 1 rfl (get32 sd) Try.underlying32 rfl rfl rfl) rfl rfl rfl ?_
        refine D_pure (i := 13) [0, 1, 2, 3, 4, 5, 6, 7] rfl (by kernel_rfl) rfl (pr_add (add32 _ _) rfl rfl rfl) (.inr rfl) rfl rfl ?_
        refine D_pure (i := 14) [0, 1, 2, 3, 4, 5, 6, 7] rfl (by kernel_rfl) rfl (pr_assign rfl rfl) (.inr rfl) rfl rfl ?_
        refine D_done (by kernel_rfl) ?_
        refine T_re [(2, (.pointer (some ⟨g1, 0, none⟩))), (3, (.pointer (some ⟨g4, 0, none⟩))), (4, (.pointer (some ⟨g5, 0, none⟩))), (5, (.slice A12 (0 + n + (plen n)) C13)), (6, (.int .i64 ((64 * k : Nat) : Int))), (7, (.pointer (some ⟨g15, 0, none⟩))), (14, (.pointer (some ⟨g26, 0, none⟩))), (15, (.int .i64 ((i : Nat) : Int))), (18, (b32 (((((ath (rounds (hst (shamsg xs) k) (schw (List.take 64 (List.drop (64 * k) (shamsg xs))) 64) i) 7) + (((ror32 (ath (rounds (hst (shamsg xs) k) (schw (List.take 64 (List.drop (64 * k) (shamsg xs))) 64) i) 4) 6) ^^^ (ror32 (ath (rounds (hst (shamsg xs) k) (schw (List.take 64 (List.drop (64 * k) (shamsg xs))) 64) i) 4) 11)) ^^^ (ror32 (ath (rounds (hst (shamsg xs) k) (schw (List.take 64 (List.drop (64 * k) (shamsg xs))) 64) i) 4) 25))) + (((ath (rounds (hst (shamsg xs) k) (schw (List.take 64 (List.drop (64 * k) (shamsg xs))) 64) i) 4) &&& (ath (rounds (hst (shamsg xs) k) (schw (List.take 64 (List.drop (64 * k) (shamsg xs))) 64) i) 5)) ^^^ ((~~~(ath (rounds (hst (shamsg xs) k) (schw (List.take 64 (List.drop (64 * k) (shamsg xs))) 64) i) 4)) &&& (ath (rounds (hst (shamsg xs) k) (schw (List.take 64 (List.drop (64 * k) (shamsg xs))) 64) i) 6)))) + (ath shaK i)) + (ath (schw (List.take 64 (List.drop (64 * k) (shamsg xs))) 64) i))))] (sc rfl (sc rfl (sc rfl (sc rfl (sc rfl (sc rfl (sc rfl (sc rfl (sc rfl sn))))))))) ?_
        refine T_he [0, 1, 2, 3, 4, 5, 6, 7] [.blk g26 55 ((rounds (hst (shamsg xs) k) (schw (List.take 64 (List.drop (64 * k) (shamsg xs))) 64) i).map b32), .blk g15 33 ((schw (List.take 64 (List.drop (64 * k) (shamsg xs))) 64).map b32), .row (.slice A12 (0 + n + (plen n)) C13) 5 1 (0 + n + (plen n)) ((xs ++ padb n).map b8), .row (.slice B10 (plen n) d11) 5 1 (plen n) ((padb n).map b8), .blk g5 55 ((hst (shamsg xs) k).map b32), .blk g4 33 (shaK.map b32), .blk g1 26 ((List.replicate 32 0#8).map b8), .rd A 1 n c (xs.map b8)] ⟨by decide, rfl⟩ ?_
        refine T_seq ?_
        refine T_regD [.blk g26 55 ((rounds (hst (shamsg xs) k) (schw (List.take 64 (List.drop (64 * k) (shamsg xs))) 64) i).map b32), .blk g15 33 ((schw (List.take 64 (List.drop (64 * k) (shamsg xs))) 64).map b32), .row (.slice A12 (0 + n + (plen n)) C13) 5 1 (0 + n + (plen n)) ((xs ++ padb n).map b8), .row (.slice B10 (plen n) d11) 5 1 (plen n) ((padb n).map b8), .blk g5 55 ((hst (shamsg xs) k).map b32), .blk g4 33 (shaK.map b32), .blk g1 26 ((List.replicate 32 0#8).map b8), .rd A 1 n c (xs.map b8)] 12 12 #[false, false, false, false, false, false, false, false, false, false, false, false] hF (by kernel_rfl) (by kernel_rfl) ?_
        refine D_pure (i := 0) [0, 1, 2, 3, 4, 5, 6, 7] rfl (by kernel_rfl) rfl (pr_ixa (j := 0) (m' := 0) sd (by omega) Try.underlying55 (z := 1) (by kernel_rfl) rfl rfl rfl) (.inr rfl) rfl rfl ?_
        refine D_pure (i := 3) [0, 1, 2, 3, 4, 5, 6, 7] rfl (by kernel_rfl) rfl (pr_ixa (j := 0) (m' := 0) sd (by omega) Try.underlying55 (z := 1) (by kernel_rfl) rfl rfl rfl) (.inr rfl) rfl rfl ?_
        refine D_pure (i := 7) [0, 1, 2, 3, 4, 5, 6, 7] rfl (by kernel_rfl) rfl (pr_ixa (j := 0) (m' := 0) sd (by omega) Try.underlying55 (z := 1) (by kernel_rfl) rfl rfl rfl) (.inr rfl) rfl rfl ?_
        refine D_take (i := 1) [0, 1, 2, 3, 4, 5, 6, 7] rfl (by kernel_rfl) rfl (ld_blk 0 rfl (get32 sd) Try.underlying32 rfl rfl rfl) rfl rfl rfl ?_
        refine D_take (i := 4) [0, 1, 2, 3, 4, 5, 6, 7] rfl (by kernel_rfl) rfl (ld_blk 0 rfl (get32 sd) Try.underlying32 rfl rfl rfl) rfl rfl rfl ?_
        refine D_take (i := 8) [0, 1, 2, 3, 4, 5, 6, 7] rfl (by kernel_rfl) rfl (ld_blk 0 rfl (get32 sd) Try.underlying32 rfl rfl rfl) rfl rfl rfl ?_
        refine D_one 2 _ rfl (by kernel_rfl) rfl (op_call0 (vs := [(b32 (ath (rounds (hst (shamsg xs) k) (schw (List.take 64 (List.drop (64 * k) (shamsg xs))) 64) i) 0)), (.int .i64 ((2 : Nat) : Int))]) (cap := []) (fun w hw => turn_f (ath (rounds (hst (shamsg xs) k) (schw (List.take 64 (List.drop (64 * k) (shamsg xs))) 64) i) 0) 2 w (hok_nil w) sd sd) (enters_of Try.func40 (by kernel_rfl) rfl) rfl rfl rfl rfl rfl (fun t34 q35 => ?_))
        refine D_on [0, 1, 2, 3, 4, 5, 6, 7] rfl ?_
        refine D_one 5 _ rfl (by kernel_rfl) rfl (op_call0 (vs := [(b32 (ath (rounds (hst (shamsg xs) k) (schw (List.take 64 (List.drop (64 * k) (shamsg xs))) 64) i) 0)), (.int .i64 ((13 : Nat) : Int))]) (cap := []) (fun w hw => turn_f (ath (rounds (hst (shamsg xs) k) (schw (List.take 64 (List.drop (64 * k) (shamsg xs))) 64) i) 0) 13 w (hok_nil w) sd sd) (enters_of Try.func40 (by kernel_rfl) rfl) rfl rfl rfl rfl rfl (fun t36 q37 => ?_))
        refine D_on [0, 1, 2, 3, 4, 5, 6, 7] rfl ?_
        refine D_pure (i := 6) [0, 1, 2, 3, 4, 5, 6, 7] rfl (by kernel_rfl) rfl (pr_xor (ib_xor32 _ _) rfl rfl rfl) (.inr rfl) rfl rfl ?_
        refine D_one 9 _ rfl (by kernel_rfl) rfl (op_call0 (vs := [(b32 (ath (rounds (hst (shamsg xs) k) (schw (List.take 64 (List.drop (64 * k) (shamsg xs))) 64) i) 0)), (.int .i64 ((22 : Nat) : Int))]) (cap := []) (fun w hw => turn_f (ath (rounds (hst (shamsg xs) k) (schw (List.take 64 (List.drop (64 * k) (shamsg xs))) 64) i) 0) 22 w (hok_nil w) sd sd) (enters_of Try.func40 (by kernel_rfl) rfl) rfl rfl rfl rfl rfl (fun t38 q39 => ?_))
        refine D_on [0, 1, 2, 3, 4, 5, 6, 7] rfl ?_
        refine D_pure (i := 10) [0, 1, 2, 3, 4, 5, 6, 7] rfl (by kernel_rfl) rfl (pr_xor (ib_xor32 _ _) rfl rfl rfl) (.inr rfl) rfl rfl ?_
        refine D_pure (i := 11) [0, 1, 2, 3, 4, 5, 6, 7] rfl (by kernel_rfl) rfl (pr_assign rfl rfl) (.inr rfl) rfl rfl ?_
        refine D_done (by kernel_rfl) ?_
        refine T_re [(2, (.pointer (some ⟨g1, 0, none⟩))), (3, (.pointer (some ⟨g4, 0, none⟩))), (4, (.pointer (some ⟨g5, 0, none⟩))), (5, (.slice A12 (0 + n + (plen n)) C13)), (6, (.int .i64 ((64 * k : Nat) : Int))), (7, (.pointer (some ⟨g15, 0, none⟩))), (14, (.pointer (some ⟨g26, 0, none⟩))), (15, (.int .i64 ((i : Nat) : Int))), (18, (b32 (((((ath (rounds (hst (shamsg xs) k) (schw (List.take 64 (List.drop (64 * k) (shamsg xs))) 64) i) 7) + (((ror32 (ath (rounds (hst (shamsg xs) k) (schw (List.take 64 (List.drop (64 * k) (shamsg xs))) 64) i) 4) 6) ^^^ (ror32 (ath (rounds (hst (shamsg xs) k) (schw (List.take 64 (List.drop (64 * k) (shamsg xs))) 64) i) 4) 11)) ^^^ (ror32 (ath (rounds (hst (shamsg xs) k) (schw (List.take 64 (List.drop (64 * k) (shamsg xs))) 64) i) 4) 25))) + (((ath (rounds (hst (shamsg xs) k) (schw (List.take 64 (List.drop (64 * k) (shamsg xs))) 64) i) 4) &&& (ath (rounds (hst (shamsg xs) k) (schw (List.take 64 (List.drop (64 * k) (shamsg xs))) 64) i) 5)) ^^^ ((~~~(ath (rounds (hst (shamsg xs) k) (schw (List.take 64 (List.drop (64 * k) (shamsg xs))) 64) i) 4)) &&& (ath (rounds (hst (shamsg xs) k) (schw (List.take 64 (List.drop (64 * k) (shamsg xs))) 64) i) 6)))) + (ath shaK i)) + (ath (schw (List.take 64 (List.drop (64 * k) (shamsg xs))) 64) i)))), (19, (b32 (((ror32 (ath (rounds (hst (shamsg xs) k) (schw (List.take 64 (List.drop (64 * k) (shamsg xs))) 64) i) 0) 2) ^^^ (ror32 (ath (rounds (hst (shamsg xs) k) (schw (List.take 64 (List.drop (64 * k) (shamsg xs))) 64) i) 0) 13)) ^^^ (ror32 (ath (rounds (hst (shamsg xs) k) (schw (List.take 64 (List.drop (64 * k) (shamsg xs))) 64) i) 0) 22))))] (sc rfl (sc rfl (sc rfl (sc rfl (sc rfl (sc rfl (sc rfl (sc rfl (sc rfl (sc rfl sn)))))))))) ?_
        refine T_he [0, 1, 2, 3, 4, 5, 6, 7] [.blk g26 55 ((rounds (hst (shamsg xs) k) (schw (List.take 64 (List.drop (64 * k) (shamsg xs))) 64) i).map b32), .blk g15 33 ((schw (List.take 64 (List.drop (64 * k) (shamsg xs))) 64).map b32), .row (.slice A12 (0 + n + (plen n)) C13) 5 1 (0 + n + (plen n)) ((xs ++ padb n).map b8), .row (.slice B10 (plen n) d11) 5 1 (plen n) ((padb n).map b8), .blk g5 55 ((hst (shamsg xs) k).map b32), .blk g4 33 (shaK.map b32), .blk g1 26 ((List.replicate 32 0#8).map b8), .rd A 1 n c (xs.map b8)] ⟨by decide, rfl⟩ ?_
        refine T_seq ?_
        refine T_reg hF rfl ?_
        refine L_op rfl (op_pr (pr_ixa (j := 0) (m' := 0) sd (by omega) Try.underlying55 (z := 1) (by kernel_rfl) rfl rfl rfl) rfl rfl ?_)
        refine L_op rfl (op_ld (ld_blk 0 rfl (get32 sd) Try.underlying32 rfl rfl rfl) rfl rfl ?_)
        refine L_op rfl (op_pr (pr_ixa (j := 1) (m' := 1) sd (by omega) Try.underlying55 (z := 1) (by kernel_rfl) rfl rfl rfl) rfl rfl ?_)
        refine L_op rfl (op_ld (ld_blk 0 rfl (get32 sd) Try.underlying32 rfl rfl rfl) rfl rfl ?_)
        refine L_op rfl (op_pr (pr_and (ib_and32 _ _) rfl rfl rfl) rfl rfl ?_)
        refine L_op rfl (op_pr (pr_ixa (j := 0) (m' := 0) sd (by omega) Try.underlying55 (z := 1) (by kernel_rfl) rfl rfl rfl) rfl rfl ?_)
        refine L_op rfl (op_ld (ld_blk 0 rfl (get32 sd) Try.underlying32 rfl rfl rfl) rfl rfl ?_)
        refine L_op rfl (op_pr (pr_ixa (j := 2) (m' := 2) sd (by omega) Try.underlying55 (z := 1) (by kernel_rfl) rfl rfl rfl) rfl rfl ?_)
        refine L_op rfl (op_ld (ld_blk 0 rfl (get32 sd) Try.underlying32 rfl rfl rfl) rfl rfl ?_)
        refine L_op rfl (op_pr (pr_and (ib_and32 _ _) rfl rfl rfl) rfl rfl ?_)
        refine L_op rfl (op_pr (pr_xor (ib_xor32 _ _) rfl rfl rfl) rfl rfl ?_)
        refine L_op rfl (op_pr (pr_ixa (j := 1) (m' := 1) sd (by omega) Try.underlying55 (z := 1) (by kernel_rfl) rfl rfl rfl) rfl rfl ?_)
        refine L_op rfl (op_ld (ld_blk 0 rfl (get32 sd) Try.underlying32 rfl rfl rfl) rfl rfl ?_)
        refine L_op rfl (op_pr (pr_ixa (j := 2) (m' := 2) sd (by omega) Try.underlying55 (z := 1) (by kernel_rfl) rfl rfl rfl) rfl rfl ?_)
        refine L_op rfl (op_ld (ld_blk 0 rfl (get32 sd) Try.underlying32 rfl rfl rfl) rfl rfl ?_)
        refine L_op rfl (op_pr (pr_and (ib_and32 _ _) rfl rfl rfl) rfl rfl ?_)
        refine L_op rfl (op_pr (pr_xor (ib_xor32 _ _) rfl rfl rfl) rfl rfl ?_)
        refine L_op rfl (op_pr (pr_assign rfl rfl) rfl rfl ?_)
        refine L_nil ?_
        refine T_re [(2, (.pointer (some ⟨g1, 0, none⟩))), (3, (.pointer (some ⟨g4, 0, none⟩))), (4, (.pointer (some ⟨g5, 0, none⟩))), (5, (.slice A12 (0 + n + (plen n)) C13)), (6, (.int .i64 ((64 * k : Nat) : Int))), (7, (.pointer (some ⟨g15, 0, none⟩))), (14, (.pointer (some ⟨g26, 0, none⟩))), (15, (.int .i64 ((i : Nat) : Int))), (18, (b32 (((((ath (rounds (hst (shamsg xs) k) (schw (List.take 64 (List.drop (64 * k) (shamsg xs))) 64) i) 7) + (((ror32 (ath (rounds (hst (shamsg xs) k) (schw (List.take 64 (List.drop (64 * k) (shamsg xs))) 64) i) 4) 6) ^^^ (ror32 (ath (rounds (hst (shamsg xs) k) (schw (List.take 64 (List.drop (64 * k) (shamsg xs))) 64) i) 4) 11)) ^^^ (ror32 (ath (rounds (hst (shamsg xs) k) (schw (List.take 64 (List.drop (64 * k) (shamsg xs))) 64) i) 4) 25))) + (((ath (rounds (hst (shamsg xs) k) (schw (List.take 64 (List.drop (64 * k) (shamsg xs))) 64) i) 4) &&& (ath (rounds (hst (shamsg xs) k) (schw (List.take 64 (List.drop (64 * k) (shamsg xs))) 64) i) 5)) ^^^ ((~~~(ath (rounds (hst (shamsg xs) k) (schw (List.take 64 (List.drop (64 * k) (shamsg xs))) 64) i) 4)) &&& (ath (rounds (hst (shamsg xs) k) (schw (List.take 64 (List.drop (64 * k) (shamsg xs))) 64) i) 6)))) + (ath shaK i)) + (ath (schw (List.take 64 (List.drop (64 * k) (shamsg xs))) 64) i)))), (19, (b32 (((ror32 (ath (rounds (hst (shamsg xs) k) (schw (List.take 64 (List.drop (64 * k) (shamsg xs))) 64) i) 0) 2) ^^^ (ror32 (ath (rounds (hst (shamsg xs) k) (schw (List.take 64 (List.drop (64 * k) (shamsg xs))) 64) i) 0) 13)) ^^^ (ror32 (ath (rounds (hst (shamsg xs) k) (schw (List.take 64 (List.drop (64 * k) (shamsg xs))) 64) i) 0) 22)))), (20, (b32 ((((ath (rounds (hst (shamsg xs) k) (schw (List.take 64 (List.drop (64 * k) (shamsg xs))) 64) i) 0) &&& (ath (rounds (hst (shamsg xs) k) (schw (List.take 64 (List.drop (64 * k) (shamsg xs))) 64) i) 1)) ^^^ ((ath (rounds (hst (shamsg xs) k) (schw (List.take 64 (List.drop (64 * k) (shamsg xs))) 64) i) 0) &&& (ath (rounds (hst (shamsg xs) k) (schw (List.take 64 (List.drop (64 * k) (shamsg xs))) 64) i) 2))) ^^^ ((ath (rounds (hst (shamsg xs) k) (schw (List.take 64 (List.drop (64 * k) (shamsg xs))) 64) i) 1) &&& (ath (rounds (hst (shamsg xs) k) (schw (List.take 64 (List.drop (64 * k) (shamsg xs))) 64) i) 2)))))] (sc rfl (sc rfl (sc rfl (sc rfl (sc rfl (sc rfl (sc rfl (sc rfl (sc rfl (sc rfl (sc rfl sn))))))))))) ?_
        refine T_he [0, 1, 2, 3, 4, 5, 6, 7] [.blk g26 55 ((rounds (hst (shamsg xs) k) (schw (List.take 64 (List.drop (64 * k) (shamsg xs))) 64) i).map b32), .blk g15 33 ((schw (List.take 64 (List.drop (64 * k) (shamsg xs))) 64).map b32), .row (.slice A12 (0 + n + (plen n)) C13) 5 1 (0 + n + (plen n)) ((xs ++ padb n).map b8), .row (.slice B10 (plen n) d11) 5 1 (plen n) ((padb n).map b8), .blk g5 55 ((hst (shamsg xs) k).map b32), .blk g4 33 (shaK.map b32), .blk g1 26 ((List.replicate 32 0#8).map b8), .rd A 1 n c (xs.map b8)] ⟨by decide, rfl⟩ ?_
        refine T_reg hF rfl ?_
        refine L_op rfl (op_pr (pr_move rfl rfl) rfl rfl ?_)
        refine L_op rfl (op_pr (pr_move rfl rfl) rfl rfl ?_)
        refine L_op rfl (op_pr (pr_add (add32 _ _) rfl rfl rfl) rfl rfl ?_)
        refine L_op rfl (op_pr (pr_move rfl rfl) rfl rfl ?_)
        refine L_op rfl (op_pr (pr_add (add32 _ _) rfl rfl rfl) rfl rfl ?_)
        refine L_op rfl (op_pr (pr_ixa (j := 0) (m' := 0) sd (by omega) Try.underlying55 (z := 1) (by kernel_rfl) rfl rfl rfl) rfl rfl ?_)
        refine L_op rfl (op_ld (ld_blk 0 rfl (get32 sd) Try.underlying32 rfl rfl rfl) rfl rfl ?_)
        refine L_op rfl (op_pr (pr_ixa (j := 1) (m' := 1) sd (by omega) Try.underlying55 (z := 1) (by kernel_rfl) rfl rfl rfl) rfl rfl ?_)
        refine L_op rfl (op_ld (ld_blk 0 rfl (get32 sd) Try.underlying32 rfl rfl rfl) rfl rfl ?_)
        refine L_op rfl (op_pr (pr_ixa (j := 2) (m' := 2) sd (by omega) Try.underlying55 (z := 1) (by kernel_rfl) rfl rfl rfl) rfl rfl ?_)
        refine L_op rfl (op_ld (ld_blk 0 rfl (get32 sd) Try.underlying32 rfl rfl rfl) rfl rfl ?_)
        refine L_op rfl (op_pr (pr_ixa (j := 3) (m' := 3) sd (by omega) Try.underlying55 (z := 1) (by kernel_rfl) rfl rfl rfl) rfl rfl ?_)
        refine L_op rfl (op_ld (ld_blk 0 rfl (get32 sd) Try.underlying32 rfl rfl rfl) rfl rfl ?_)
        refine L_op rfl (op_pr (pr_move rfl rfl) rfl rfl ?_)
        refine L_op rfl (op_pr (pr_add (add32 _ _) rfl rfl rfl) rfl rfl ?_)
        refine L_op rfl (op_pr (pr_ixa (j := 4) (m' := 4) sd (by omega) Try.underlying55 (z := 1) (by kernel_rfl) rfl rfl rfl) rfl rfl ?_)
        refine L_op rfl (op_ld (ld_blk 0 rfl (get32 sd) Try.underlying32 rfl rfl rfl) rfl rfl ?_)
        refine L_op rfl (op_pr (pr_ixa (j := 5) (m' := 5) sd (by omega) Try.underlying55 (z := 1) (by kernel_rfl) rfl rfl rfl) rfl rfl ?_)
        refine L_op rfl (op_ld (ld_blk 0 rfl (get32 sd) Try.underlying32 rfl rfl rfl) rfl rfl ?_)
        refine L_op rfl (op_pr (pr_ixa (j := 6) (m' := 6) sd (by omega) Try.underlying55 (z := 1) (by kernel_rfl) rfl rfl rfl) rfl rfl ?_)
        refine L_op rfl (op_ld (ld_blk 0 rfl (get32 sd) Try.underlying32 rfl rfl rfl) rfl rfl ?_)
        refine L_op rfl (op_pr (pr_build (qs := [(0, (b32 (((((((ath (rounds (hst (shamsg xs) k) (schw (List.take 64 (List.drop (64 * k) (shamsg xs))) 64) i) 7) + (((ror32 (ath (rounds (hst (shamsg xs) k) (schw (List.take 64 (List.drop (64 * k) (shamsg xs))) 64) i) 4) 6) ^^^ (ror32 (ath (rounds (hst (shamsg xs) k) (schw (List.take 64 (List.drop (64 * k) (shamsg xs))) 64) i) 4) 11)) ^^^ (ror32 (ath (rounds (hst (shamsg xs) k) (schw (List.take 64 (List.drop (64 * k) (shamsg xs))) 64) i) 4) 25))) + (((ath (rounds (hst (shamsg xs) k) (schw (List.take 64 (List.drop (64 * k) (shamsg xs))) 64) i) 4) &&& (ath (rounds (hst (shamsg xs) k) (schw (List.take 64 (List.drop (64 * k) (shamsg xs))) 64) i) 5)) ^^^ ((~~~(ath (rounds (hst (shamsg xs) k) (schw (List.take 64 (List.drop (64 * k) (shamsg xs))) 64) i) 4)) &&& (ath (rounds (hst (shamsg xs) k) (schw (List.take 64 (List.drop (64 * k) (shamsg xs))) 64) i) 6)))) + (ath shaK i)) + (ath (schw (List.take 64 (List.drop (64 * k) (shamsg xs))) 64) i)) + (((ror32 (ath (rounds (hst (shamsg xs) k) (schw (List.take 64 (List.drop (64 * k) (shamsg xs))) 64) i) 0) 2) ^^^ (ror32 (ath (rounds (hst (shamsg xs) k) (schw (List.take 64 (List.drop (64 * k) (shamsg xs))) 64) i) 0) 13)) ^^^ (ror32 (ath (rounds (hst (shamsg xs) k) (schw (List.take 64 (List.drop (64 * k) (shamsg xs))) 64) i) 0) 22))) + ((((ath (rounds (hst (shamsg xs) k) (schw (List.take 64 (List.drop (64 * k) (shamsg xs))) 64) i) 0) &&& (ath (rounds (hst (shamsg xs) k) (schw (List.take 64 (List.drop (64 * k) (shamsg xs))) 64) i) 1)) ^^^ ((ath (rounds (hst (shamsg xs) k) (schw (List.take 64 (List.drop (64 * k) (shamsg xs))) 64) i) 0) &&& (ath (rounds (hst (shamsg xs) k) (schw (List.take 64 (List.drop (64 * k) (shamsg xs))) 64) i) 2))) ^^^ ((ath (rounds (hst (shamsg xs) k) (schw (List.take 64 (List.drop (64 * k) (shamsg xs))) 64) i) 1) &&& (ath (rounds (hst (shamsg xs) k) (schw (List.take 64 (List.drop (64 * k) (shamsg xs))) 64) i) 2)))))), (1, (b32 (ath (rounds (hst (shamsg xs) k) (schw (List.take 64 (List.drop (64 * k) (shamsg xs))) 64) i) 0))), (2, (b32 (ath (rounds (hst (shamsg xs) k) (schw (List.take 64 (List.drop (64 * k) (shamsg xs))) 64) i) 1))), (3, (b32 (ath (rounds (hst (shamsg xs) k) (schw (List.take 64 (List.drop (64 * k) (shamsg xs))) 64) i) 2))), (4, (b32 ((ath (rounds (hst (shamsg xs) k) (schw (List.take 64 (List.drop (64 * k) (shamsg xs))) 64) i) 3) + (((((ath (rounds (hst (shamsg xs) k) (schw (List.take 64 (List.drop (64 * k) (shamsg xs))) 64) i) 7) + (((ror32 (ath (rounds (hst (shamsg xs) k) (schw (List.take 64 (List.drop (64 * k) (shamsg xs))) 64) i) 4) 6) ^^^ (ror32 (ath (rounds (hst (shamsg xs) k) (schw (List.take 64 (List.drop (64 * k) (shamsg xs))) 64) i) 4) 11)) ^^^ (ror32 (ath (rounds (hst (shamsg xs) k) (schw (List.take 64 (List.drop (64 * k) (shamsg xs))) 64) i) 4) 25))) + (((ath (rounds (hst (shamsg xs) k) (schw (List.take 64 (List.drop (64 * k) (shamsg xs))) 64) i) 4) &&& (ath (rounds (hst (shamsg xs) k) (schw (List.take 64 (List.drop (64 * k) (shamsg xs))) 64) i) 5)) ^^^ ((~~~(ath (rounds (hst (shamsg xs) k) (schw (List.take 64 (List.drop (64 * k) (shamsg xs))) 64) i) 4)) &&& (ath (rounds (hst (shamsg xs) k) (schw (List.take 64 (List.drop (64 * k) (shamsg xs))) 64) i) 6)))) + (ath shaK i)) + (ath (schw (List.take 64 (List.drop (64 * k) (shamsg xs))) 64) i))))), (5, (b32 (ath (rounds (hst (shamsg xs) k) (schw (List.take 64 (List.drop (64 * k) (shamsg xs))) 64) i) 4))), (6, (b32 (ath (rounds (hst (shamsg xs) k) (schw (List.take 64 (List.drop (64 * k) (shamsg xs))) 64) i) 5))), (7, (b32 (ath (rounds (hst (shamsg xs) k) (schw (List.take 64 (List.drop (64 * k) (shamsg xs))) 64) i) 6)))]) (v := .agg [(b32 (((((((ath (rounds (hst (shamsg xs) k) (schw (List.take 64 (List.drop (64 * k) (shamsg xs))) 64) i) 7) + (((ror32 (ath (rounds (hst (shamsg xs) k) (schw (List.take 64 (List.drop (64 * k) (shamsg xs))) 64) i) 4) 6) ^^^ (ror32 (ath (rounds (hst (shamsg xs) k) (schw (List.take 64 (List.drop (64 * k) (shamsg xs))) 64) i) 4) 11)) ^^^ (ror32 (ath (rounds (hst (shamsg xs) k) (schw (List.take 64 (List.drop (64 * k) (shamsg xs))) 64) i) 4) 25))) + (((ath (rounds (hst (shamsg xs) k) (schw (List.take 64 (List.drop (64 * k) (shamsg xs))) 64) i) 4) &&& (ath (rounds (hst (shamsg xs) k) (schw (List.take 64 (List.drop (64 * k) (shamsg xs))) 64) i) 5)) ^^^ ((~~~(ath (rounds (hst (shamsg xs) k) (schw (List.take 64 (List.drop (64 * k) (shamsg xs))) 64) i) 4)) &&& (ath (rounds (hst (shamsg xs) k) (schw (List.take 64 (List.drop (64 * k) (shamsg xs))) 64) i) 6)))) + (ath shaK i)) + (ath (schw (List.take 64 (List.drop (64 * k) (shamsg xs))) 64) i)) + (((ror32 (ath (rounds (hst (shamsg xs) k) (schw (List.take 64 (List.drop (64 * k) (shamsg xs))) 64) i) 0) 2) ^^^ (ror32 (ath (rounds (hst (shamsg xs) k) (schw (List.take 64 (List.drop (64 * k) (shamsg xs))) 64) i) 0) 13)) ^^^ (ror32 (ath (rounds (hst (shamsg xs) k) (schw (List.take 64 (List.drop (64 * k) (shamsg xs))) 64) i) 0) 22))) + ((((ath (rounds (hst (shamsg xs) k) (schw (List.take 64 (List.drop (64 * k) (shamsg xs))) 64) i) 0) &&& (ath (rounds (hst (shamsg xs) k) (schw (List.take 64 (List.drop (64 * k) (shamsg xs))) 64) i) 1)) ^^^ ((ath (rounds (hst (shamsg xs) k) (schw (List.take 64 (List.drop (64 * k) (shamsg xs))) 64) i) 0) &&& (ath (rounds (hst (shamsg xs) k) (schw (List.take 64 (List.drop (64 * k) (shamsg xs))) 64) i) 2))) ^^^ ((ath (rounds (hst (shamsg xs) k) (schw (List.take 64 (List.drop (64 * k) (shamsg xs))) 64) i) 1) &&& (ath (rounds (hst (shamsg xs) k) (schw (List.take 64 (List.drop (64 * k) (shamsg xs))) 64) i) 2))))), (b32 (ath (rounds (hst (shamsg xs) k) (schw (List.take 64 (List.drop (64 * k) (shamsg xs))) 64) i) 0)), (b32 (ath (rounds (hst (shamsg xs) k) (schw (List.take 64 (List.drop (64 * k) (shamsg xs))) 64) i) 1)), (b32 (ath (rounds (hst (shamsg xs) k) (schw (List.take 64 (List.drop (64 * k) (shamsg xs))) 64) i) 2)), (b32 ((ath (rounds (hst (shamsg xs) k) (schw (List.take 64 (List.drop (64 * k) (shamsg xs))) 64) i) 3) + (((((ath (rounds (hst (shamsg xs) k) (schw (List.take 64 (List.drop (64 * k) (shamsg xs))) 64) i) 7) + (((ror32 (ath (rounds (hst (shamsg xs) k) (schw (List.take 64 (List.drop (64 * k) (shamsg xs))) 64) i) 4) 6) ^^^ (ror32 (ath (rounds (hst (shamsg xs) k) (schw (List.take 64 (List.drop (64 * k) (shamsg xs))) 64) i) 4) 11)) ^^^ (ror32 (ath (rounds (hst (shamsg xs) k) (schw (List.take 64 (List.drop (64 * k) (shamsg xs))) 64) i) 4) 25))) + (((ath (rounds (hst (shamsg xs) k) (schw (List.take 64 (List.drop (64 * k) (shamsg xs))) 64) i) 4) &&& (ath (rounds (hst (shamsg xs) k) (schw (List.take 64 (List.drop (64 * k) (shamsg xs))) 64) i) 5)) ^^^ ((~~~(ath (rounds (hst (shamsg xs) k) (schw (List.take 64 (List.drop (64 * k) (shamsg xs))) 64) i) 4)) &&& (ath (rounds (hst (shamsg xs) k) (schw (List.take 64 (List.drop (64 * k) (shamsg xs))) 64) i) 6)))) + (ath shaK i)) + (ath (schw (List.take 64 (List.drop (64 * k) (shamsg xs))) 64) i)))), (b32 (ath (rounds (hst (shamsg xs) k) (schw (List.take 64 (List.drop (64 * k) (shamsg xs))) 64) i) 4)), (b32 (ath (rounds (hst (shamsg xs) k) (schw (List.take 64 (List.drop (64 * k) (shamsg xs))) 64) i) 5)), (b32 (ath (rounds (hst (shamsg xs) k) (schw (List.take 64 (List.drop (64 * k) (shamsg xs))) 64) i) 6))].toArray) (fun _ => by kernel_rfl) rfl rfl) rfl rfl ?_)
        refine L_op rfl (op_store (vs := [(b32 (((((((ath (rounds (hst (shamsg xs) k) (schw (List.take 64 (List.drop (64 * k) (shamsg xs))) 64) i) 7) + (((ror32 (ath (rounds (hst (shamsg xs) k) (schw (List.take 64 (List.drop (64 * k) (shamsg xs))) 64) i) 4) 6) ^^^ (ror32 (ath (rounds (hst (shamsg xs) k) (schw (List.take 64 (List.drop (64 * k) (shamsg xs))) 64) i) 4) 11)) ^^^ (ror32 (ath (rounds (hst (shamsg xs) k) (schw (List.take 64 (List.drop (64 * k) (shamsg xs))) 64) i) 4) 25))) + (((ath (rounds (hst (shamsg xs) k) (schw (List.take 64 (List.drop (64 * k) (shamsg xs))) 64) i) 4) &&& (ath (rounds (hst (shamsg xs) k) (schw (List.take 64 (List.drop (64 * k) (shamsg xs))) 64) i) 5)) ^^^ ((~~~(ath (rounds (hst (shamsg xs) k) (schw (List.take 64 (List.drop (64 * k) (shamsg xs))) 64) i) 4)) &&& (ath (rounds (hst (shamsg xs) k) (schw (List.take 64 (List.drop (64 * k) (shamsg xs))) 64) i) 6)))) + (ath shaK i)) + (ath (schw (List.take 64 (List.drop (64 * k) (shamsg xs))) 64) i)) + (((ror32 (ath (rounds (hst (shamsg xs) k) (schw (List.take 64 (List.drop (64 * k) (shamsg xs))) 64) i) 0) 2) ^^^ (ror32 (ath (rounds (hst (shamsg xs) k) (schw (List.take 64 (List.drop (64 * k) (shamsg xs))) 64) i) 0) 13)) ^^^ (ror32 (ath (rounds (hst (shamsg xs) k) (schw (List.take 64 (List.drop (64 * k) (shamsg xs))) 64) i) 0) 22))) + ((((ath (rounds (hst (shamsg xs) k) (schw (List.take 64 (List.drop (64 * k) (shamsg xs))) 64) i) 0) &&& (ath (rounds (hst (shamsg xs) k) (schw (List.take 64 (List.drop (64 * k) (shamsg xs))) 64) i) 1)) ^^^ ((ath (rounds (hst (shamsg xs) k) (schw (List.take 64 (List.drop (64 * k) (shamsg xs))) 64) i) 0) &&& (ath (rounds (hst (shamsg xs) k) (schw (List.take 64 (List.drop (64 * k) (shamsg xs))) 64) i) 2))) ^^^ ((ath (rounds (hst (shamsg xs) k) (schw (List.take 64 (List.drop (64 * k) (shamsg xs))) 64) i) 1) &&& (ath (rounds (hst (shamsg xs) k) (schw (List.take 64 (List.drop (64 * k) (shamsg xs))) 64) i) 2))))), (b32 (ath (rounds (hst (shamsg xs) k) (schw (List.take 64 (List.drop (64 * k) (shamsg xs))) 64) i) 0)), (b32 (ath (rounds (hst (shamsg xs) k) (schw (List.take 64 (List.drop (64 * k) (shamsg xs))) 64) i) 1)), (b32 (ath (rounds (hst (shamsg xs) k) (schw (List.take 64 (List.drop (64 * k) (shamsg xs))) 64) i) 2)), (b32 ((ath (rounds (hst (shamsg xs) k) (schw (List.take 64 (List.drop (64 * k) (shamsg xs))) 64) i) 3) + (((((ath (rounds (hst (shamsg xs) k) (schw (List.take 64 (List.drop (64 * k) (shamsg xs))) 64) i) 7) + (((ror32 (ath (rounds (hst (shamsg xs) k) (schw (List.take 64 (List.drop (64 * k) (shamsg xs))) 64) i) 4) 6) ^^^ (ror32 (ath (rounds (hst (shamsg xs) k) (schw (List.take 64 (List.drop (64 * k) (shamsg xs))) 64) i) 4) 11)) ^^^ (ror32 (ath (rounds (hst (shamsg xs) k) (schw (List.take 64 (List.drop (64 * k) (shamsg xs))) 64) i) 4) 25))) + (((ath (rounds (hst (shamsg xs) k) (schw (List.take 64 (List.drop (64 * k) (shamsg xs))) 64) i) 4) &&& (ath (rounds (hst (shamsg xs) k) (schw (List.take 64 (List.drop (64 * k) (shamsg xs))) 64) i) 5)) ^^^ ((~~~(ath (rounds (hst (shamsg xs) k) (schw (List.take 64 (List.drop (64 * k) (shamsg xs))) 64) i) 4)) &&& (ath (rounds (hst (shamsg xs) k) (schw (List.take 64 (List.drop (64 * k) (shamsg xs))) 64) i) 6)))) + (ath shaK i)) + (ath (schw (List.take 64 (List.drop (64 * k) (shamsg xs))) 64) i)))), (b32 (ath (rounds (hst (shamsg xs) k) (schw (List.take 64 (List.drop (64 * k) (shamsg xs))) 64) i) 4)), (b32 (ath (rounds (hst (shamsg xs) k) (schw (List.take 64 (List.drop (64 * k) (shamsg xs))) 64) i) 5)), (b32 (ath (rounds (hst (shamsg xs) k) (schw (List.take 64 (List.drop (64 * k) (shamsg xs))) 64) i) 6))]) (cs' := [(b32 (((((((ath (rounds (hst (shamsg xs) k) (schw (List.take 64 (List.drop (64 * k) (shamsg xs))) 64) i) 7) + (((ror32 (ath (rounds (hst (shamsg xs) k) (schw (List.take 64 (List.drop (64 * k) (shamsg xs))) 64) i) 4) 6) ^^^ (ror32 (ath (rounds (hst (shamsg xs) k) (schw (List.take 64 (List.drop (64 * k) (shamsg xs))) 64) i) 4) 11)) ^^^ (ror32 (ath (rounds (hst (shamsg xs) k) (schw (List.take 64 (List.drop (64 * k) (shamsg xs))) 64) i) 4) 25))) + (((ath (rounds (hst (shamsg xs) k) (schw (List.take 64 (List.drop (64 * k) (shamsg xs))) 64) i) 4) &&& (ath (rounds (hst (shamsg xs) k) (schw (List.take 64 (List.drop (64 * k) (shamsg xs))) 64) i) 5)) ^^^ ((~~~(ath (rounds (hst (shamsg xs) k) (schw (List.take 64 (List.drop (64 * k) (shamsg xs))) 64) i) 4)) &&& (ath (rounds (hst (shamsg xs) k) (schw (List.take 64 (List.drop (64 * k) (shamsg xs))) 64) i) 6)))) + (ath shaK i)) + (ath (schw (List.take 64 (List.drop (64 * k) (shamsg xs))) 64) i)) + (((ror32 (ath (rounds (hst (shamsg xs) k) (schw (List.take 64 (List.drop (64 * k) (shamsg xs))) 64) i) 0) 2) ^^^ (ror32 (ath (rounds (hst (shamsg xs) k) (schw (List.take 64 (List.drop (64 * k) (shamsg xs))) 64) i) 0) 13)) ^^^ (ror32 (ath (rounds (hst (shamsg xs) k) (schw (List.take 64 (List.drop (64 * k) (shamsg xs))) 64) i) 0) 22))) + ((((ath (rounds (hst (shamsg xs) k) (schw (List.take 64 (List.drop (64 * k) (shamsg xs))) 64) i) 0) &&& (ath (rounds (hst (shamsg xs) k) (schw (List.take 64 (List.drop (64 * k) (shamsg xs))) 64) i) 1)) ^^^ ((ath (rounds (hst (shamsg xs) k) (schw (List.take 64 (List.drop (64 * k) (shamsg xs))) 64) i) 0) &&& (ath (rounds (hst (shamsg xs) k) (schw (List.take 64 (List.drop (64 * k) (shamsg xs))) 64) i) 2))) ^^^ ((ath (rounds (hst (shamsg xs) k) (schw (List.take 64 (List.drop (64 * k) (shamsg xs))) 64) i) 1) &&& (ath (rounds (hst (shamsg xs) k) (schw (List.take 64 (List.drop (64 * k) (shamsg xs))) 64) i) 2))))), (b32 (ath (rounds (hst (shamsg xs) k) (schw (List.take 64 (List.drop (64 * k) (shamsg xs))) 64) i) 0)), (b32 (ath (rounds (hst (shamsg xs) k) (schw (List.take 64 (List.drop (64 * k) (shamsg xs))) 64) i) 1)), (b32 (ath (rounds (hst (shamsg xs) k) (schw (List.take 64 (List.drop (64 * k) (shamsg xs))) 64) i) 2)), (b32 ((ath (rounds (hst (shamsg xs) k) (schw (List.take 64 (List.drop (64 * k) (shamsg xs))) 64) i) 3) + (((((ath (rounds (hst (shamsg xs) k) (schw (List.take 64 (List.drop (64 * k) (shamsg xs))) 64) i) 7) + (((ror32 (ath (rounds (hst (shamsg xs) k) (schw (List.take 64 (List.drop (64 * k) (shamsg xs))) 64) i) 4) 6) ^^^ (ror32 (ath (rounds (hst (shamsg xs) k) (schw (List.take 64 (List.drop (64 * k) (shamsg xs))) 64) i) 4) 11)) ^^^ (ror32 (ath (rounds (hst (shamsg xs) k) (schw (List.take 64 (List.drop (64 * k) (shamsg xs))) 64) i) 4) 25))) + (((ath (rounds (hst (shamsg xs) k) (schw (List.take 64 (List.drop (64 * k) (shamsg xs))) 64) i) 4) &&& (ath (rounds (hst (shamsg xs) k) (schw (List.take 64 (List.drop (64 * k) (shamsg xs))) 64) i) 5)) ^^^ ((~~~(ath (rounds (hst (shamsg xs) k) (schw (List.take 64 (List.drop (64 * k) (shamsg xs))) 64) i) 4)) &&& (ath (rounds (hst (shamsg xs) k) (schw (List.take 64 (List.drop (64 * k) (shamsg xs))) 64) i) 6)))) + (ath shaK i)) + (ath (schw (List.take 64 (List.drop (64 * k) (shamsg xs))) 64) i)))), (b32 (ath (rounds (hst (shamsg xs) k) (schw (List.take 64 (List.drop (64 * k) (shamsg xs))) 64) i) 4)), (b32 (ath (rounds (hst (shamsg xs) k) (schw (List.take 64 (List.drop (64 * k) (shamsg xs))) 64) i) 5)), (b32 (ath (rounds (hst (shamsg xs) k) (schw (List.take 64 (List.drop (64 * k) (shamsg xs))) 64) i) 6))]) 0 rfl rfl (by kernel_rfl) (by simp [Value.oneCell']) (by have h1 : (((rounds (hst (shamsg xs) k) (schw (List.take 64 (List.drop (64 * k) (shamsg xs))) 64) i).map b32)).length = 8 := sd; have h2 : ([(b32 (((((((ath (rounds (hst (shamsg xs) k) (schw (List.take 64 (List.drop (64 * k) (shamsg xs))) 64) i) 7) + (((ror32 (ath (rounds (hst (shamsg xs) k) (schw (List.take 64 (List.drop (64 * k) (shamsg xs))) 64) i) 4) 6) ^^^ (ror32 (ath (rounds (hst (shamsg xs) k) (schw (List.take 64 (List.drop (64 * k) (shamsg xs))) 64) i) 4) 11)) ^^^ (ror32 (ath (rounds (hst (shamsg xs) k) (schw (List.take 64 (List.drop (64 * k) (shamsg xs))) 64) i) 4) 25))) + (((ath (rounds (hst (shamsg xs) k) (schw (List.take 64 (List.drop (64 * k) (shamsg xs))) 64) i) 4) &&& (ath (rounds (hst (shamsg xs) k) (schw (List.take 64 (List.drop (64 * k) (shamsg xs))) 64) i) 5)) ^^^ ((~~~(ath (rounds (hst (shamsg xs) k) (schw (List.take 64 (List.drop (64 * k) (shamsg xs))) 64) i) 4)) &&& (ath (rounds (hst (shamsg xs) k) (schw (List.take 64 (List.drop (64 * k) (shamsg xs))) 64) i) 6)))) + (ath shaK i)) + (ath (schw (List.take 64 (List.drop (64 * k) (shamsg xs))) 64) i)) + (((ror32 (ath (rounds (hst (shamsg xs) k) (schw (List.take 64 (List.drop (64 * k) (shamsg xs))) 64) i) 0) 2) ^^^ (ror32 (ath (rounds (hst (shamsg xs) k) (schw (List.take 64 (List.drop (64 * k) (shamsg xs))) 64) i) 0) 13)) ^^^ (ror32 (ath (rounds (hst (shamsg xs) k) (schw (List.take 64 (List.drop (64 * k) (shamsg xs))) 64) i) 0) 22))) + ((((ath (rounds (hst (shamsg xs) k) (schw (List.take 64 (List.drop (64 * k) (shamsg xs))) 64) i) 0) &&& (ath (rounds (hst (shamsg xs) k) (schw (List.take 64 (List.drop (64 * k) (shamsg xs))) 64) i) 1)) ^^^ ((ath (rounds (hst (shamsg xs) k) (schw (List.take 64 (List.drop (64 * k) (shamsg xs))) 64) i) 0) &&& (ath (rounds (hst (shamsg xs) k) (schw (List.take 64 (List.drop (64 * k) (shamsg xs))) 64) i) 2))) ^^^ ((ath (rounds (hst (shamsg xs) k) (schw (List.take 64 (List.drop (64 * k) (shamsg xs))) 64) i) 1) &&& (ath (rounds (hst (shamsg xs) k) (schw (List.take 64 (List.drop (64 * k) (shamsg xs))) 64) i) 2))))), (b32 (ath (rounds (hst (shamsg xs) k) (schw (List.take 64 (List.drop (64 * k) (shamsg xs))) 64) i) 0)), (b32 (ath (rounds (hst (shamsg xs) k) (schw (List.take 64 (List.drop (64 * k) (shamsg xs))) 64) i) 1)), (b32 (ath (rounds (hst (shamsg xs) k) (schw (List.take 64 (List.drop (64 * k) (shamsg xs))) 64) i) 2)), (b32 ((ath (rounds (hst (shamsg xs) k) (schw (List.take 64 (List.drop (64 * k) (shamsg xs))) 64) i) 3) + (((((ath (rounds (hst (shamsg xs) k) (schw (List.take 64 (List.drop (64 * k) (shamsg xs))) 64) i) 7) + (((ror32 (ath (rounds (hst (shamsg xs) k) (schw (List.take 64 (List.drop (64 * k) (shamsg xs))) 64) i) 4) 6) ^^^ (ror32 (ath (rounds (hst (shamsg xs) k) (schw (List.take 64 (List.drop (64 * k) (shamsg xs))) 64) i) 4) 11)) ^^^ (ror32 (ath (rounds (hst (shamsg xs) k) (schw (List.take 64 (List.drop (64 * k) (shamsg xs))) 64) i) 4) 25))) + (((ath (rounds (hst (shamsg xs) k) (schw (List.take 64 (List.drop (64 * k) (shamsg xs))) 64) i) 4) &&& (ath (rounds (hst (shamsg xs) k) (schw (List.take 64 (List.drop (64 * k) (shamsg xs))) 64) i) 5)) ^^^ ((~~~(ath (rounds (hst (shamsg xs) k) (schw (List.take 64 (List.drop (64 * k) (shamsg xs))) 64) i) 4)) &&& (ath (rounds (hst (shamsg xs) k) (schw (List.take 64 (List.drop (64 * k) (shamsg xs))) 64) i) 6)))) + (ath shaK i)) + (ath (schw (List.take 64 (List.drop (64 * k) (shamsg xs))) 64) i)))), (b32 (ath (rounds (hst (shamsg xs) k) (schw (List.take 64 (List.drop (64 * k) (shamsg xs))) 64) i) 4)), (b32 (ath (rounds (hst (shamsg xs) k) (schw (List.take 64 (List.drop (64 * k) (shamsg xs))) 64) i) 5)), (b32 (ath (rounds (hst (shamsg xs) k) (schw (List.take 64 (List.drop (64 * k) (shamsg xs))) 64) i) 6))]).length = 8 := (by kernel_rfl); omega) (splice_all (Eq.trans (b := 8) sd (Eq.symm (by kernel_rfl)))) rfl rfl rfl rfl ?_)
        refine L_nil ?_
        refine T_re [(2, (.pointer (some ⟨g1, 0, none⟩))), (3, (.pointer (some ⟨g4, 0, none⟩))), (4, (.pointer (some ⟨g5, 0, none⟩))), (5, (.slice A12 (0 + n + (plen n)) C13)), (6, (.int .i64 ((64 * k : Nat) : Int))), (7, (.pointer (some ⟨g15, 0, none⟩))), (14, (.pointer (some ⟨g26, 0, none⟩))), (15, (.int .i64 ((i : Nat) : Int)))] (sc rfl (sc rfl (sc rfl (sc rfl (sc rfl (sc rfl (sc rfl (sc rfl sn)))))))) ?_
        refine T_he [0, 1, 2, 3, 4, 5, 6, 7] [.blk g26 55 [(b32 (((((((ath (rounds (hst (shamsg xs) k) (schw (List.take 64 (List.drop (64 * k) (shamsg xs))) 64) i) 7) + (((ror32 (ath (rounds (hst (shamsg xs) k) (schw (List.take 64 (List.drop (64 * k) (shamsg xs))) 64) i) 4) 6) ^^^ (ror32 (ath (rounds (hst (shamsg xs) k) (schw (List.take 64 (List.drop (64 * k) (shamsg xs))) 64) i) 4) 11)) ^^^ (ror32 (ath (rounds (hst (shamsg xs) k) (schw (List.take 64 (List.drop (64 * k) (shamsg xs))) 64) i) 4) 25))) + (((ath (rounds (hst (shamsg xs) k) (schw (List.take 64 (List.drop (64 * k) (shamsg xs))) 64) i) 4) &&& (ath (rounds (hst (shamsg xs) k) (schw (List.take 64 (List.drop (64 * k) (shamsg xs))) 64) i) 5)) ^^^ ((~~~(ath (rounds (hst (shamsg xs) k) (schw (List.take 64 (List.drop (64 * k) (shamsg xs))) 64) i) 4)) &&& (ath (rounds (hst (shamsg xs) k) (schw (List.take 64 (List.drop (64 * k) (shamsg xs))) 64) i) 6)))) + (ath shaK i)) + (ath (schw (List.take 64 (List.drop (64 * k) (shamsg xs))) 64) i)) + (((ror32 (ath (rounds (hst (shamsg xs) k) (schw (List.take 64 (List.drop (64 * k) (shamsg xs))) 64) i) 0) 2) ^^^ (ror32 (ath (rounds (hst (shamsg xs) k) (schw (List.take 64 (List.drop (64 * k) (shamsg xs))) 64) i) 0) 13)) ^^^ (ror32 (ath (rounds (hst (shamsg xs) k) (schw (List.take 64 (List.drop (64 * k) (shamsg xs))) 64) i) 0) 22))) + ((((ath (rounds (hst (shamsg xs) k) (schw (List.take 64 (List.drop (64 * k) (shamsg xs))) 64) i) 0) &&& (ath (rounds (hst (shamsg xs) k) (schw (List.take 64 (List.drop (64 * k) (shamsg xs))) 64) i) 1)) ^^^ ((ath (rounds (hst (shamsg xs) k) (schw (List.take 64 (List.drop (64 * k) (shamsg xs))) 64) i) 0) &&& (ath (rounds (hst (shamsg xs) k) (schw (List.take 64 (List.drop (64 * k) (shamsg xs))) 64) i) 2))) ^^^ ((ath (rounds (hst (shamsg xs) k) (schw (List.take 64 (List.drop (64 * k) (shamsg xs))) 64) i) 1) &&& (ath (rounds (hst (shamsg xs) k) (schw (List.take 64 (List.drop (64 * k) (shamsg xs))) 64) i) 2))))), (b32 (ath (rounds (hst (shamsg xs) k) (schw (List.take 64 (List.drop (64 * k) (shamsg xs))) 64) i) 0)), (b32 (ath (rounds (hst (shamsg xs) k) (schw (List.take 64 (List.drop (64 * k) (shamsg xs))) 64) i) 1)), (b32 (ath (rounds (hst (shamsg xs) k) (schw (List.take 64 (List.drop (64 * k) (shamsg xs))) 64) i) 2)), (b32 ((ath (rounds (hst (shamsg xs) k) (schw (List.take 64 (List.drop (64 * k) (shamsg xs))) 64) i) 3) + (((((ath (rounds (hst (shamsg xs) k) (schw (List.take 64 (List.drop (64 * k) (shamsg xs))) 64) i) 7) + (((ror32 (ath (rounds (hst (shamsg xs) k) (schw (List.take 64 (List.drop (64 * k) (shamsg xs))) 64) i) 4) 6) ^^^ (ror32 (ath (rounds (hst (shamsg xs) k) (schw (List.take 64 (List.drop (64 * k) (shamsg xs))) 64) i) 4) 11)) ^^^ (ror32 (ath (rounds (hst (shamsg xs) k) (schw (List.take 64 (List.drop (64 * k) (shamsg xs))) 64) i) 4) 25))) + (((ath (rounds (hst (shamsg xs) k) (schw (List.take 64 (List.drop (64 * k) (shamsg xs))) 64) i) 4) &&& (ath (rounds (hst (shamsg xs) k) (schw (List.take 64 (List.drop (64 * k) (shamsg xs))) 64) i) 5)) ^^^ ((~~~(ath (rounds (hst (shamsg xs) k) (schw (List.take 64 (List.drop (64 * k) (shamsg xs))) 64) i) 4)) &&& (ath (rounds (hst (shamsg xs) k) (schw (List.take 64 (List.drop (64 * k) (shamsg xs))) 64) i) 6)))) + (ath shaK i)) + (ath (schw (List.take 64 (List.drop (64 * k) (shamsg xs))) 64) i)))), (b32 (ath (rounds (hst (shamsg xs) k) (schw (List.take 64 (List.drop (64 * k) (shamsg xs))) 64) i) 4)), (b32 (ath (rounds (hst (shamsg xs) k) (schw (List.take 64 (List.drop (64 * k) (shamsg xs))) 64) i) 5)), (b32 (ath (rounds (hst (shamsg xs) k) (schw (List.take 64 (List.drop (64 * k) (shamsg xs))) 64) i) 6))], .blk g15 33 ((schw (List.take 64 (List.drop (64 * k) (shamsg xs))) 64).map b32), .row (.slice A12 (0 + n + (plen n)) C13) 5 1 (0 + n + (plen n)) ((xs ++ padb n).map b8), .row (.slice B10 (plen n) d11) 5 1 (plen n) ((padb n).map b8), .blk g5 55 ((hst (shamsg xs) k).map b32), .blk g4 33 (shaK.map b32), .blk g1 26 ((List.replicate 32 0#8).map b8), .rd A 1 n c (xs.map b8)] ⟨by decide, rfl⟩ ?_
        refine T_reg hF rfl ?_
        refine L_op rfl (op_pr (pr_move rfl rfl) rfl rfl ?_)
        refine L_op rfl (op_pr (pr_add (na_i64 (a := i) (b := 1) sd) rfl rfl rfl) rfl rfl ?_)
        refine L_op rfl (op_pr (pr_assign rfl rfl) rfl rfl ?_)
        refine L_nil ?_
        refine T_re [(2, (.pointer (some ⟨g1, 0, none⟩))), (3, (.pointer (some ⟨g4, 0, none⟩))), (4, (.pointer (some ⟨g5, 0, none⟩))), (5, (.slice A12 (0 + n + (plen n)) C13)), (6, (.int .i64 ((64 * k : Nat) : Int))), (7, (.pointer (some ⟨g15, 0, none⟩))), (14, (.pointer (some ⟨g26, 0, none⟩))), (15, (.int .i64 ((i + 1 : Nat) : Int)))] (sc rfl (sc rfl (sc rfl (sc rfl (sc rfl (sc rfl (sc rfl (sc rfl sn)))))))) ?_
        refine T_he [0, 1, 2, 3, 4, 5, 6, 7] [.blk g26 55 [(b32 (((((((ath (rounds (hst (shamsg xs) k) (schw (List.take 64 (List.drop (64 * k) (shamsg xs))) 64) i) 7) + (((ror32 (ath (rounds (hst (shamsg xs) k) (schw (List.take 64 (List.drop (64 * k) (shamsg xs))) 64) i) 4) 6) ^^^ (ror32 (ath (rounds (hst (shamsg xs) k) (schw (List.take 64 (List.drop (64 * k) (shamsg xs))) 64) i) 4) 11)) ^^^ (ror32 (ath (rounds (hst (shamsg xs) k) (schw (List.take 64 (List.drop (64 * k) (shamsg xs))) 64) i) 4) 25))) + (((ath (rounds (hst (shamsg xs) k) (schw (List.take 64 (List.drop (64 * k) (shamsg xs))) 64) i) 4) &&& (ath (rounds (hst (shamsg xs) k) (schw (List.take 64 (List.drop (64 * k) (shamsg xs))) 64) i) 5)) ^^^ ((~~~(ath (rounds (hst (shamsg xs) k) (schw (List.take 64 (List.drop (64 * k) (shamsg xs))) 64) i) 4)) &&& (ath (rounds (hst (shamsg xs) k) (schw (List.take 64 (List.drop (64 * k) (shamsg xs))) 64) i) 6)))) + (ath shaK i)) + (ath (schw (List.take 64 (List.drop (64 * k) (shamsg xs))) 64) i)) + (((ror32 (ath (rounds (hst (shamsg xs) k) (schw (List.take 64 (List.drop (64 * k) (shamsg xs))) 64) i) 0) 2) ^^^ (ror32 (ath (rounds (hst (shamsg xs) k) (schw (List.take 64 (List.drop (64 * k) (shamsg xs))) 64) i) 0) 13)) ^^^ (ror32 (ath (rounds (hst (shamsg xs) k) (schw (List.take 64 (List.drop (64 * k) (shamsg xs))) 64) i) 0) 22))) + ((((ath (rounds (hst (shamsg xs) k) (schw (List.take 64 (List.drop (64 * k) (shamsg xs))) 64) i) 0) &&& (ath (rounds (hst (shamsg xs) k) (schw (List.take 64 (List.drop (64 * k) (shamsg xs))) 64) i) 1)) ^^^ ((ath (rounds (hst (shamsg xs) k) (schw (List.take 64 (List.drop (64 * k) (shamsg xs))) 64) i) 0) &&& (ath (rounds (hst (shamsg xs) k) (schw (List.take 64 (List.drop (64 * k) (shamsg xs))) 64) i) 2))) ^^^ ((ath (rounds (hst (shamsg xs) k) (schw (List.take 64 (List.drop (64 * k) (shamsg xs))) 64) i) 1) &&& (ath (rounds (hst (shamsg xs) k) (schw (List.take 64 (List.drop (64 * k) (shamsg xs))) 64) i) 2))))), (b32 (ath (rounds (hst (shamsg xs) k) (schw (List.take 64 (List.drop (64 * k) (shamsg xs))) 64) i) 0)), (b32 (ath (rounds (hst (shamsg xs) k) (schw (List.take 64 (List.drop (64 * k) (shamsg xs))) 64) i) 1)), (b32 (ath (rounds (hst (shamsg xs) k) (schw (List.take 64 (List.drop (64 * k) (shamsg xs))) 64) i) 2)), (b32 ((ath (rounds (hst (shamsg xs) k) (schw (List.take 64 (List.drop (64 * k) (shamsg xs))) 64) i) 3) + (((((ath (rounds (hst (shamsg xs) k) (schw (List.take 64 (List.drop (64 * k) (shamsg xs))) 64) i) 7) + (((ror32 (ath (rounds (hst (shamsg xs) k) (schw (List.take 64 (List.drop (64 * k) (shamsg xs))) 64) i) 4) 6) ^^^ (ror32 (ath (rounds (hst (shamsg xs) k) (schw (List.take 64 (List.drop (64 * k) (shamsg xs))) 64) i) 4) 11)) ^^^ (ror32 (ath (rounds (hst (shamsg xs) k) (schw (List.take 64 (List.drop (64 * k) (shamsg xs))) 64) i) 4) 25))) + (((ath (rounds (hst (shamsg xs) k) (schw (List.take 64 (List.drop (64 * k) (shamsg xs))) 64) i) 4) &&& (ath (rounds (hst (shamsg xs) k) (schw (List.take 64 (List.drop (64 * k) (shamsg xs))) 64) i) 5)) ^^^ ((~~~(ath (rounds (hst (shamsg xs) k) (schw (List.take 64 (List.drop (64 * k) (shamsg xs))) 64) i) 4)) &&& (ath (rounds (hst (shamsg xs) k) (schw (List.take 64 (List.drop (64 * k) (shamsg xs))) 64) i) 6)))) + (ath shaK i)) + (ath (schw (List.take 64 (List.drop (64 * k) (shamsg xs))) 64) i)))), (b32 (ath (rounds (hst (shamsg xs) k) (schw (List.take 64 (List.drop (64 * k) (shamsg xs))) 64) i) 4)), (b32 (ath (rounds (hst (shamsg xs) k) (schw (List.take 64 (List.drop (64 * k) (shamsg xs))) 64) i) 5)), (b32 (ath (rounds (hst (shamsg xs) k) (schw (List.take 64 (List.drop (64 * k) (shamsg xs))) 64) i) 6))], .blk g15 33 ((schw (List.take 64 (List.drop (64 * k) (shamsg xs))) 64).map b32), .row (.slice A12 (0 + n + (plen n)) C13) 5 1 (0 + n + (plen n)) ((xs ++ padb n).map b8), .row (.slice B10 (plen n) d11) 5 1 (plen n) ((padb n).map b8), .blk g5 55 ((hst (shamsg xs) k).map b32), .blk g4 33 (shaK.map b32), .blk g1 26 ((List.replicate 32 0#8).map b8), .rd A 1 n c (xs.map b8)] ⟨by decide, rfl⟩ ?_
        refine T_as 0 (.blk g26 55 [(b32 (((((((ath (rounds (hst (shamsg xs) k) (schw (List.take 64 (List.drop (64 * k) (shamsg xs))) 64) i) 7) + (((ror32 (ath (rounds (hst (shamsg xs) k) (schw (List.take 64 (List.drop (64 * k) (shamsg xs))) 64) i) 4) 6) ^^^ (ror32 (ath (rounds (hst (shamsg xs) k) (schw (List.take 64 (List.drop (64 * k) (shamsg xs))) 64) i) 4) 11)) ^^^ (ror32 (ath (rounds (hst (shamsg xs) k) (schw (List.take 64 (List.drop (64 * k) (shamsg xs))) 64) i) 4) 25))) + (((ath (rounds (hst (shamsg xs) k) (schw (List.take 64 (List.drop (64 * k) (shamsg xs))) 64) i) 4) &&& (ath (rounds (hst (shamsg xs) k) (schw (List.take 64 (List.drop (64 * k) (shamsg xs))) 64) i) 5)) ^^^ ((~~~(ath (rounds (hst (shamsg xs) k) (schw (List.take 64 (List.drop (64 * k) (shamsg xs))) 64) i) 4)) &&& (ath (rounds (hst (shamsg xs) k) (schw (List.take 64 (List.drop (64 * k) (shamsg xs))) 64) i) 6)))) + (ath shaK i)) + (ath (schw (List.take 64 (List.drop (64 * k) (shamsg xs))) 64) i)) + (((ror32 (ath (rounds (hst (shamsg xs) k) (schw (List.take 64 (List.drop (64 * k) (shamsg xs))) 64) i) 0) 2) ^^^ (ror32 (ath (rounds (hst (shamsg xs) k) (schw (List.take 64 (List.drop (64 * k) (shamsg xs))) 64) i) 0) 13)) ^^^ (ror32 (ath (rounds (hst (shamsg xs) k) (schw (List.take 64 (List.drop (64 * k) (shamsg xs))) 64) i) 0) 22))) + ((((ath (rounds (hst (shamsg xs) k) (schw (List.take 64 (List.drop (64 * k) (shamsg xs))) 64) i) 0) &&& (ath (rounds (hst (shamsg xs) k) (schw (List.take 64 (List.drop (64 * k) (shamsg xs))) 64) i) 1)) ^^^ ((ath (rounds (hst (shamsg xs) k) (schw (List.take 64 (List.drop (64 * k) (shamsg xs))) 64) i) 0) &&& (ath (rounds (hst (shamsg xs) k) (schw (List.take 64 (List.drop (64 * k) (shamsg xs))) 64) i) 2))) ^^^ ((ath (rounds (hst (shamsg xs) k) (schw (List.take 64 (List.drop (64 * k) (shamsg xs))) 64) i) 1) &&& (ath (rounds (hst (shamsg xs) k) (schw (List.take 64 (List.drop (64 * k) (shamsg xs))) 64) i) 2))))), (b32 (ath (rounds (hst (shamsg xs) k) (schw (List.take 64 (List.drop (64 * k) (shamsg xs))) 64) i) 0)), (b32 (ath (rounds (hst (shamsg xs) k) (schw (List.take 64 (List.drop (64 * k) (shamsg xs))) 64) i) 1)), (b32 (ath (rounds (hst (shamsg xs) k) (schw (List.take 64 (List.drop (64 * k) (shamsg xs))) 64) i) 2)), (b32 ((ath (rounds (hst (shamsg xs) k) (schw (List.take 64 (List.drop (64 * k) (shamsg xs))) 64) i) 3) + (((((ath (rounds (hst (shamsg xs) k) (schw (List.take 64 (List.drop (64 * k) (shamsg xs))) 64) i) 7) + (((ror32 (ath (rounds (hst (shamsg xs) k) (schw (List.take 64 (List.drop (64 * k) (shamsg xs))) 64) i) 4) 6) ^^^ (ror32 (ath (rounds (hst (shamsg xs) k) (schw (List.take 64 (List.drop (64 * k) (shamsg xs))) 64) i) 4) 11)) ^^^ (ror32 (ath (rounds (hst (shamsg xs) k) (schw (List.take 64 (List.drop (64 * k) (shamsg xs))) 64) i) 4) 25))) + (((ath (rounds (hst (shamsg xs) k) (schw (List.take 64 (List.drop (64 * k) (shamsg xs))) 64) i) 4) &&& (ath (rounds (hst (shamsg xs) k) (schw (List.take 64 (List.drop (64 * k) (shamsg xs))) 64) i) 5)) ^^^ ((~~~(ath (rounds (hst (shamsg xs) k) (schw (List.take 64 (List.drop (64 * k) (shamsg xs))) 64) i) 4)) &&& (ath (rounds (hst (shamsg xs) k) (schw (List.take 64 (List.drop (64 * k) (shamsg xs))) 64) i) 6)))) + (ath shaK i)) + (ath (schw (List.take 64 (List.drop (64 * k) (shamsg xs))) 64) i)))), (b32 (ath (rounds (hst (shamsg xs) k) (schw (List.take 64 (List.drop (64 * k) (shamsg xs))) 64) i) 4)), (b32 (ath (rounds (hst (shamsg xs) k) (schw (List.take 64 (List.drop (64 * k) (shamsg xs))) 64) i) 5)), (b32 (ath (rounds (hst (shamsg xs) k) (schw (List.take 64 (List.drop (64 * k) (shamsg xs))) 64) i) 6))]) (.blk g26 55 ((rounds (hst (shamsg xs) k) (schw (List.take 64 (List.drop (64 * k) (shamsg xs))) 64) (i + 1)).map b32)) rfl (by rw [rounds_succ]; unfold rnd; simp only [BitVec.add_assoc]; rfl) ?_
        exact T_again (i + 1) (by first | trivial | ((try dsimp only); first | omega | (refine ⟨?_, ?_⟩ <;> omega) | (refine ⟨?_, ?_, ?_⟩ <;> omega) | (simp; done) | (simp; omega))) (by first | trivial | ((try dsimp only); first | omega | (refine ⟨?_, ?_⟩ <;> omega) | (refine ⟨?_, ?_, ?_⟩ <;> omega) | (simp; done) | (simp; omega))) (sc rfl (sc rfl (sc rfl (sc rfl (sc rfl (sc rfl (sc rfl (sc rfl sn)))))))) [0, 1, 2, 3, 4, 5, 6, 7] ⟨by decide, rfl⟩
      · skip
        have hc_27 := of_decide_eq_false hc_27
        refine T_exit rfl ?_
        obtain rfl : 64 = i := by omega
        refine T_seq ?_
        refine T_reg hF rfl ?_
        refine L_op rfl (op_pr (pr_assign rfl rfl) rfl rfl ?_)
        refine L_nil ?_
        refine T_re [(2, (.pointer (some ⟨g1, 0, none⟩))), (3, (.pointer (some ⟨g4, 0, none⟩))), (4, (.pointer (some ⟨g5, 0, none⟩))), (5, (.slice A12 (0 + n + (plen n)) C13)), (6, (.int .i64 ((64 * k : Nat) : Int))), (14, (.pointer (some ⟨g26, 0, none⟩))), (21, (.int .i64 ((0 : Nat) : Int)))] (sc rfl (sc rfl (sc rfl (sc rfl (sc rfl (sc rfl (sc rfl sn))))))) ?_
        refine T_he [0, 1, 2, 3, 4, 5, 6, 7] [.blk g26 55 ((rounds (hst (shamsg xs) k) (schw (List.take 64 (List.drop (64 * k) (shamsg xs))) 64) 64).map b32), .blk g15 33 ((schw (List.take 64 (List.drop (64 * k) (shamsg xs))) 64).map b32), .row (.slice A12 (0 + n + (plen n)) C13) 5 1 (0 + n + (plen n)) ((xs ++ padb n).map b8), .row (.slice B10 (plen n) d11) 5 1 (plen n) ((padb n).map b8), .blk g5 55 ((hst (shamsg xs) k).map b32), .blk g4 33 (shaK.map b32), .blk g1 26 ((List.replicate 32 0#8).map b8), .rd A 1 n c (xs.map b8)] ⟨by decide, rfl⟩ ?_
        refine T_block ?_
        refine T_as 4 (.blk g5 55 ((hst (shamsg xs) k).map b32)) (.blk g5 55 ((addt (hst (shamsg xs) k) (rounds (hst (shamsg xs) k) (schw (List.take 64 (List.drop (64 * k) (shamsg xs))) 64) 64) 0).map b32)) rfl (by rw [addt_zero]) ?_
        refine T_loop (T := Nat) (fun q => q ≤ 8) (fun q => [(2, (.pointer (some ⟨g1, 0, none⟩))), (3, (.pointer (some ⟨g4, 0, none⟩))), (4, (.pointer (some ⟨g5, 0, none⟩))), (5, (.slice A12 (0 + n + (plen n)) C13)), (6, (.int .i64 ((64 * k : Nat) : Int))), (14, (.pointer (some ⟨g26, 0, none⟩))), (21, (.int .i64 ((q : Nat) : Int)))]) (fun q => [.blk g26 55 ((rounds (hst (shamsg xs) k) (schw (List.take 64 (List.drop (64 * k) (shamsg xs))) 64) 64).map b32), .blk g15 33 ((schw (List.take 64 (List.drop (64 * k) (shamsg xs))) 64).map b32), .row (.slice A12 (0 + n + (plen n)) C13) 5 1 (0 + n + (plen n)) ((xs ++ padb n).map b8), .row (.slice B10 (plen n) d11) 5 1 (plen n) ((padb n).map b8), .blk g5 55 ((addt (hst (shamsg xs) k) (rounds (hst (shamsg xs) k) (schw (List.take 64 (List.drop (64 * k) (shamsg xs))) 64) 64) q).map b32), .blk g4 33 (shaK.map b32), .blk g1 26 ((List.replicate 32 0#8).map b8), .rd A 1 n c (xs.map b8)]) (fun q => 8 - q) 0 (by first | trivial | ((try dsimp only); first | omega | (refine ⟨?_, ?_⟩ <;> omega) | (refine ⟨?_, ?_, ?_⟩ <;> omega) | (simp; done) | (simp; omega))) (sc rfl (sc rfl (sc rfl (sc rfl (sc rfl (sc rfl (sc rfl sn))))))) [1, 2, 3, 4, 0, 5, 6, 7] ⟨by decide, rfl⟩ ?_
        rintro q hp
        have hp : q ≤ 8 := hp
        have hak := addt_len (hst (shamsg xs) k) (rounds (hst (shamsg xs) k) (schw (List.take 64 (List.drop (64 * k) (shamsg xs))) 64) 64) q
        have hr64 := rounds_len (hst (shamsg xs) k) (schw (List.take 64 (List.drop (64 * k) (shamsg xs))) 64) hk8 64
        refine T_re [(2, (.pointer (some ⟨g1, 0, none⟩))), (3, (.pointer (some ⟨g4, 0, none⟩))), (4, (.pointer (some ⟨g5, 0, none⟩))), (5, (.slice A12 (0 + n + (plen n)) C13)), (6, (.int .i64 ((64 * k : Nat) : Int))), (14, (.pointer (some ⟨g26, 0, none⟩))), (21, (.int .i64 ((q : Nat) : Int)))] (sc rfl (sc rfl (sc rfl (sc rfl (sc rfl (sc rfl (sc rfl sn))))))) ?_
        refine T_he [0, 1, 2, 3, 4, 5, 6, 7] [.blk g26 55 ((rounds (hst (shamsg xs) k) (schw (List.take 64 (List.drop (64 * k) (shamsg xs))) 64) 64).map b32), .blk g15 33 ((schw (List.take 64 (List.drop (64 * k) (shamsg xs))) 64).map b32), .row (.slice A12 (0 + n + (plen n)) C13) 5 1 (0 + n + (plen n)) ((xs ++ padb n).map b8), .row (.slice B10 (plen n) d11) 5 1 (plen n) ((padb n).map b8), .blk g5 55 ((addt (hst (shamsg xs) k) (rounds (hst (shamsg xs) k) (schw (List.take 64 (List.drop (64 * k) (shamsg xs))) 64) 64) q).map b32), .blk g4 33 (shaK.map b32), .blk g1 26 ((List.replicate 32 0#8).map b8), .rd A 1 n c (xs.map b8)] ⟨by decide, rfl⟩ ?_
        refine T_seq ?_
        refine T_seq ?_
        refine T_reg hF rfl ?_
        refine L_op rfl (op_pr (pr_move rfl rfl) rfl rfl ?_)
        refine L_op rfl (op_pr (pr_cmp (bo := .lss) (nc_lt (a := q) (b := 8)) rfl rfl rfl rfl) rfl rfl ?_)
        refine L_nil ?_
        refine T_re [(2, (.pointer (some ⟨g1, 0, none⟩))), (3, (.pointer (some ⟨g4, 0, none⟩))), (4, (.pointer (some ⟨g5, 0, none⟩))), (5, (.slice A12 (0 + n + (plen n)) C13)), (6, (.int .i64 ((64 * k : Nat) : Int))), (14, (.pointer (some ⟨g26, 0, none⟩))), (21, (.int .i64 ((q : Nat) : Int))), (211, (.bool (decide (q < 8))))] (sc rfl (sc rfl (sc rfl (sc rfl (sc rfl (sc rfl (sc rfl (sc rfl sn)))))))) ?_
        refine T_he [0, 1, 2, 3, 4, 5, 6, 7] [.blk g26 55 ((rounds (hst (shamsg xs) k) (schw (List.take 64 (List.drop (64 * k) (shamsg xs))) 64) 64).map b32), .blk g15 33 ((schw (List.take 64 (List.drop (64 * k) (shamsg xs))) 64).map b32), .row (.slice A12 (0 + n + (plen n)) C13) 5 1 (0 + n + (plen n)) ((xs ++ padb n).map b8), .row (.slice B10 (plen n) d11) 5 1 (plen n) ((padb n).map b8), .blk g5 55 ((addt (hst (shamsg xs) k) (rounds (hst (shamsg xs) k) (schw (List.take 64 (List.drop (64 * k) (shamsg xs))) 64) 64) q).map b32), .blk g4 33 (shaK.map b32), .blk g1 26 ((List.replicate 32 0#8).map b8), .rd A 1 n c (xs.map b8)] ⟨by decide, rfl⟩ ?_
        refine T_cond (decide (q < 8)) rfl (fun hc_40 => ?_) (fun hc_40 => ?_)
        · skip
          have hc_40 := of_decide_eq_true hc_40
          refine T_skip ?_
          refine T_seq ?_
          refine T_block ?_
          refine T_regD [.blk g26 55 ((rounds (hst (shamsg xs) k) (schw (List.take 64 (List.drop (64 * k) (shamsg xs))) 64) 64).map b32), .blk g15 33 ((schw (List.take 64 (List.drop (64 * k) (shamsg xs))) 64).map b32), .row (.slice A12 (0 + n + (plen n)) C13) 5 1 (0 + n + (plen n)) ((xs ++ padb n).map b8), .row (.slice B10 (plen n) d11) 5 1 (plen n) ((padb n).map b8), .blk g5 55 ((addt (hst (shamsg xs) k) (rounds (hst (shamsg xs) k) (schw (List.take 64 (List.drop (64 * k) (shamsg xs))) 64) 64) q).map b32), .blk g4 33 (shaK.map b32), .blk g1 26 ((List.replicate 32 0#8).map b8), .rd A 1 n c (xs.map b8)] 9 10 #[false, false, false, false, false, false, false, false, false, false] hF (by kernel_rfl) (by kernel_rfl) ?_
          refine D_pure (i := 0) [0, 1, 2, 3, 4, 5, 6, 7] rfl (by kernel_rfl) rfl (pr_move rfl rfl) (.inr rfl) rfl rfl ?_
          refine D_pure (i := 1) [0, 1, 2, 3, 4, 5, 6, 7] rfl (by kernel_rfl) rfl (pr_move rfl rfl) (.inr rfl) rfl rfl ?_
          refine D_pure (i := 2) [0, 1, 2, 3, 4, 5, 6, 7] rfl (by kernel_rfl) rfl (pr_ixa (j := q) (m' := q) sd (by omega) Try.underlying55 (z := 1) (by kernel_rfl) rfl rfl rfl) (.inr rfl) rfl rfl ?_
          refine D_pure (i := 4) [0, 1, 2, 3, 4, 5, 6, 7] rfl (by kernel_rfl) rfl (pr_move rfl rfl) (.inr rfl) rfl rfl ?_
          refine D_pure (i := 5) [0, 1, 2, 3, 4, 5, 6, 7] rfl (by kernel_rfl) rfl (pr_ixa (j := q) (m' := q) sd (by omega) Try.underlying55 (z := 1) (by kernel_rfl) rfl rfl rfl) (.inr rfl) rfl rfl ?_
          refine D_take (i := 3) [0, 1, 2, 3, 4, 5, 6, 7] rfl (by kernel_rfl) rfl (ld_blk 4 rfl (get32 sd) Try.underlying32 rfl rfl rfl) rfl rfl rfl ?_
          refine D_take (i := 6) [0, 1, 2, 3, 4, 5, 6, 7] rfl (by kernel_rfl) rfl (ld_blk 0 rfl (get32 sd) Try.underlying32 rfl rfl rfl) rfl rfl rfl ?_
          refine D_pure (i := 7) [0, 1, 2, 3, 4, 5, 6, 7] rfl (by kernel_rfl) rfl (pr_add (add32 _ _) rfl rfl rfl) (.inr rfl) rfl rfl ?_
          refine D_pure (i := 8) [0, 1, 2, 3, 4, 5, 6, 7] rfl (by kernel_rfl) rfl (pr_ixa (j := q) (m' := q) sd (by omega) Try.underlying55 (z := 1) (by kernel_rfl) rfl rfl rfl) (.inr rfl) rfl rfl ?_
          refine D_one 9 _ rfl (by kernel_rfl) rfl (op_store (vs := [(b32 ((ath (addt (hst (shamsg xs) k) (rounds (hst (shamsg xs) k) (schw (List.take 64 (List.drop (64 * k) (shamsg xs))) 64) 64) q) q) + (ath (rounds (hst (shamsg xs) k) (schw (List.take 64 (List.drop (64 * k) (shamsg xs))) 64) 64) q)))]) (cs' := ((List.set (addt (hst (shamsg xs) k) (rounds (hst (shamsg xs) k) (schw (List.take 64 (List.drop (64 * k) (shamsg xs))) 64) 64) q) q ((ath (addt (hst (shamsg xs) k) (rounds (hst (shamsg xs) k) (schw (List.take 64 (List.drop (64 * k) (shamsg xs))) 64) 64) q) q) + (ath (rounds (hst (shamsg xs) k) (schw (List.take 64 (List.drop (64 * k) (shamsg xs))) 64) 64) q))).map b32)) 4 rfl rfl (by kernel_rfl) (one_one rfl) (by have : q < ((addt (hst (shamsg xs) k) (rounds (hst (shamsg xs) k) (schw (List.take 64 (List.drop (64 * k) (shamsg xs))) 64) 64) q)).length := sd; simp only [List.length_map, List.length_singleton]; omega) (splice_map (f := b32) sd) rfl rfl rfl rfl ?_)
          refine D_past (by kernel_rfl) ?_
          refine D_done (by kernel_rfl) ?_
          refine T_re [(2, (.pointer (some ⟨g1, 0, none⟩))), (3, (.pointer (some ⟨g4, 0, none⟩))), (4, (.pointer (some ⟨g5, 0, none⟩))), (5, (.slice A12 (0 + n + (plen n)) C13)), (6, (.int .i64 ((64 * k : Nat) : Int))), (14, (.pointer (some ⟨g26, 0, none⟩))), (21, (.int .i64 ((q : Nat) : Int)))] (sc rfl (sc rfl (sc rfl (sc rfl (sc rfl (sc rfl (sc rfl sn))))))) ?_
          refine T_he [0, 1, 2, 3, 4, 5, 6, 7] [.blk g5 55 ((List.set (addt (hst (shamsg xs) k) (rounds (hst (shamsg xs) k) (schw (List.take 64 (List.drop (64 * k) (shamsg xs))) 64) 64) q) q ((ath (addt (hst (shamsg xs) k) (rounds (hst (shamsg xs) k) (schw (List.take 64 (List.drop (64 * k) (shamsg xs))) 64) 64) q) q) + (ath (rounds (hst (shamsg xs) k) (schw (List.take 64 (List.drop (64 * k) (shamsg xs))) 64) 64) q))).map b32), .blk g26 55 ((rounds (hst (shamsg xs) k) (schw (List.take 64 (List.drop (64 * k) (shamsg xs))) 64) 64).map b32), .blk g15 33 ((schw (List.take 64 (List.drop (64 * k) (shamsg xs))) 64).map b32), .row (.slice A12 (0 + n + (plen n)) C13) 5 1 (0 + n + (plen n)) ((xs ++ padb n).map b8), .row (.slice B10 (plen n) d11) 5 1 (plen n) ((padb n).map b8), .blk g4 33 (shaK.map b32), .blk g1 26 ((List.replicate 32 0#8).map b8), .rd A 1 n c (xs.map b8)] ⟨by decide, rfl⟩ ?_
          refine T_reg hF rfl ?_
          refine L_op rfl (op_pr (pr_move rfl rfl) rfl rfl ?_)
          refine L_op rfl (op_pr (pr_add (na_i64 (a := q) (b := 1) sd) rfl rfl rfl) rfl rfl ?_)
          refine L_op rfl (op_pr (pr_assign rfl rfl) rfl rfl ?_)
          refine L_nil ?_
          refine T_re [(2, (.pointer (some ⟨g1, 0, none⟩))), (3, (.pointer (some ⟨g4, 0, none⟩))), (4, (.pointer (some ⟨g5, 0, none⟩))), (5, (.slice A12 (0 + n + (plen n)) C13)), (6, (.int .i64 ((64 * k : Nat) : Int))), (14, (.pointer (some ⟨g26, 0, none⟩))), (21, (.int .i64 ((q + 1 : Nat) : Int)))] (sc rfl (sc rfl (sc rfl (sc rfl (sc rfl (sc rfl (sc rfl sn))))))) ?_
          refine T_he [0, 1, 2, 3, 4, 5, 6, 7] [.blk g5 55 ((List.set (addt (hst (shamsg xs) k) (rounds (hst (shamsg xs) k) (schw (List.take 64 (List.drop (64 * k) (shamsg xs))) 64) 64) q) q ((ath (addt (hst (shamsg xs) k) (rounds (hst (shamsg xs) k) (schw (List.take 64 (List.drop (64 * k) (shamsg xs))) 64) 64) q) q) + (ath (rounds (hst (shamsg xs) k) (schw (List.take 64 (List.drop (64 * k) (shamsg xs))) 64) 64) q))).map b32), .blk g26 55 ((rounds (hst (shamsg xs) k) (schw (List.take 64 (List.drop (64 * k) (shamsg xs))) 64) 64).map b32), .blk g15 33 ((schw (List.take 64 (List.drop (64 * k) (shamsg xs))) 64).map b32), .row (.slice A12 (0 + n + (plen n)) C13) 5 1 (0 + n + (plen n)) ((xs ++ padb n).map b8), .row (.slice B10 (plen n) d11) 5 1 (plen n) ((padb n).map b8), .blk g4 33 (shaK.map b32), .blk g1 26 ((List.replicate 32 0#8).map b8), .rd A 1 n c (xs.map b8)] ⟨by decide, rfl⟩ ?_
          refine T_as 0 (.blk g5 55 ((List.set (addt (hst (shamsg xs) k) (rounds (hst (shamsg xs) k) (schw (List.take 64 (List.drop (64 * k) (shamsg xs))) 64) 64) q) q ((ath (addt (hst (shamsg xs) k) (rounds (hst (shamsg xs) k) (schw (List.take 64 (List.drop (64 * k) (shamsg xs))) 64) 64) q) q) + (ath (rounds (hst (shamsg xs) k) (schw (List.take 64 (List.drop (64 * k) (shamsg xs))) 64) 64) q))).map b32)) (.blk g5 55 ((addt (hst (shamsg xs) k) (rounds (hst (shamsg xs) k) (schw (List.take 64 (List.drop (64 * k) (shamsg xs))) 64) 64) (q + 1)).map b32)) rfl (by rw [addt_succ]) ?_
          exact T_again (q + 1) (by first | trivial | ((try dsimp only); first | omega | (refine ⟨?_, ?_⟩ <;> omega) | (refine ⟨?_, ?_, ?_⟩ <;> omega) | (simp; done) | (simp; omega))) (by first | trivial | ((try dsimp only); first | omega | (refine ⟨?_, ?_⟩ <;> omega) | (refine ⟨?_, ?_, ?_⟩ <;> omega) | (simp; done) | (simp; omega))) (sc rfl (sc rfl (sc rfl (sc rfl (sc rfl (sc rfl (sc rfl sn))))))) [1, 2, 3, 4, 0, 5, 6, 7] ⟨by decide, rfl⟩
        · skip
          have hc_40 := of_decide_eq_false hc_40
          refine T_exit rfl ?_
          obtain rfl : 8 = q := by omega
          refine T_reg hF rfl ?_
          refine L_op rfl (op_pr (pr_move rfl rfl) rfl rfl ?_)
          refine L_op rfl (op_pr (pr_add (na_i64 (a := 64 * k) (b := 64) sd) rfl rfl rfl) rfl rfl ?_)
          refine L_op rfl (op_pr (pr_assign rfl rfl) rfl rfl ?_)
          refine L_nil ?_
          refine T_re [(2, (.pointer (some ⟨g1, 0, none⟩))), (3, (.pointer (some ⟨g4, 0, none⟩))), (4, (.pointer (some ⟨g5, 0, none⟩))), (5, (.slice A12 (0 + n + (plen n)) C13)), (6, (.int .i64 ((64 * k + 64 : Nat) : Int)))] (sc rfl (sc rfl (sc rfl (sc rfl (sc rfl sn))))) ?_
          refine T_he [0, 1, 2, 3, 4, 5, 6, 7] [.blk g26 55 ((rounds (hst (shamsg xs) k) (schw (List.take 64 (List.drop (64 * k) (shamsg xs))) 64) 64).map b32), .blk g15 33 ((schw (List.take 64 (List.drop (64 * k) (shamsg xs))) 64).map b32), .row (.slice A12 (0 + n + (plen n)) C13) 5 1 (0 + n + (plen n)) ((xs ++ padb n).map b8), .row (.slice B10 (plen n) d11) 5 1 (plen n) ((padb n).map b8), .blk g5 55 ((addt (hst (shamsg xs) k) (rounds (hst (shamsg xs) k) (schw (List.take 64 (List.drop (64 * k) (shamsg xs))) 64) 64) 8).map b32), .blk g4 33 (shaK.map b32), .blk g1 26 ((List.replicate 32 0#8).map b8), .rd A 1 n c (xs.map b8)] ⟨by decide, rfl⟩ ?_
          refine T_slot 6 (.int .i64 ((64 * k + 64 : Nat) : Int)) (.int .i64 ((64 * (k + 1) : Nat) : Int)) rfl (by congr 1 <;> omega) ?_
          refine T_as 4 (.blk g5 55 ((addt (hst (shamsg xs) k) (rounds (hst (shamsg xs) k) (schw (List.take 64 (List.drop (64 * k) (shamsg xs))) 64) 64) 8).map b32)) (.blk g5 55 ((hst (shamsg xs) (k + 1)).map b32)) rfl (by rw [hst_succ, mixb_def]) ?_
          exact T_again (k + 1) (by first | trivial | ((try dsimp only); first | omega | (refine ⟨?_, ?_⟩ <;> omega) | (refine ⟨?_, ?_, ?_⟩ <;> omega) | (simp; done) | (simp; omega))) (by first | trivial | ((try dsimp only); first | omega | (refine ⟨?_, ?_⟩ <;> omega) | (refine ⟨?_, ?_, ?_⟩ <;> omega) | (simp; done) | (simp; omega))) (sc rfl (sc rfl (sc rfl (sc rfl (sc rfl sn))))) [3, 4, 0, 5, 6, 7] ⟨by decide, rfl⟩
  · skip
    have hc_14 := of_decide_eq_false hc_14
    refine T_exit rfl ?_
    obtain rfl : ((n + plen n + 64 - 1) / 64) = k := by omega
    have hkE := hstl ((n + plen n + 64 - 1) / 64)
    refine T_seq ?_
    refine T_reg hF rfl ?_
    refine L_op rfl (op_alloc (z := .agg ((List.replicate 32 0#8).map b8).toArray) (zs := ((List.replicate 32 0#8).map b8)) (by kernel_rfl) rfl rfl rfl rfl (fun g41 => ?_))
    refine L_nil ?_
    refine T_re [(2, (.pointer (some ⟨g1, 0, none⟩))), (4, (.pointer (some ⟨g5, 0, none⟩))), (22, (.pointer (some ⟨g41, 0, none⟩)))] (sc rfl (sc rfl (sc rfl sn))) ?_
    refine T_he [0, 1, 2, 3, 4, 5, 6] [.blk g41 26 ((List.replicate 32 0#8).map b8), .row (.slice A12 (0 + n + (plen n)) C13) 5 1 (0 + n + (plen n)) ((xs ++ padb n).map b8), .row (.slice B10 (plen n) d11) 5 1 (plen n) ((padb n).map b8), .blk g5 55 ((hst (shamsg xs) ((n + plen n + 64 - 1) / 64)).map b32), .blk g4 33 (shaK.map b32), .blk g1 26 ((List.replicate 32 0#8).map b8), .rd A 1 n c (xs.map b8)] ⟨by decide, rfl⟩ ?_
    refine T_seq ?_
    refine T_seq ?_
    refine T_reg hF rfl ?_
    refine L_op rfl (op_pr (pr_assign rfl rfl) rfl rfl ?_)
    refine L_nil ?_
    refine T_re [(2, (.pointer (some ⟨g1, 0, none⟩))), (4, (.pointer (some ⟨g5, 0, none⟩))), (22, (.pointer (some ⟨g41, 0, none⟩))), (23, (.int .i64 ((0 : Nat) : Int)))] (sc rfl (sc rfl (sc rfl (sc rfl sn)))) ?_
    refine T_he [0, 1, 2, 3, 4, 5, 6] [.blk g41 26 ((List.replicate 32 0#8).map b8), .row (.slice A12 (0 + n + (plen n)) C13) 5 1 (0 + n + (plen n)) ((xs ++ padb n).map b8), .row (.slice B10 (plen n) d11) 5 1 (plen n) ((padb n).map b8), .blk g5 55 ((hst (shamsg xs) ((n + plen n + 64 - 1) / 64)).map b32), .blk g4 33 (shaK.map b32), .blk g1 26 ((List.replicate 32 0#8).map b8), .rd A 1 n c (xs.map b8)] ⟨by decide, rfl⟩ ?_
    refine T_block ?_
    refine T_as 0 (.blk g41 26 ((List.replicate 32 0#8).map b8)) (.blk g41 26 ((pre0 (shasum xs) 32 0).map b8)) rfl (by rw [← pre0_zero]) ?_
    refine T_loop (T := Nat) (fun j => j ≤ 32) (fun j => [(2, (.pointer (some ⟨g1, 0, none⟩))), (4, (.pointer (some ⟨g5, 0, none⟩))), (22, (.pointer (some ⟨g41, 0, none⟩))), (23, (.int .i64 ((j : Nat) : Int)))]) (fun j => [.blk g41 26 ((pre0 (shasum xs) 32 j).map b8), .row (.slice A12 (0 + n + (plen n)) C13) 5 1 (0 + n + (plen n)) ((xs ++ padb n).map b8), .row (.slice B10 (plen n) d11) 5 1 (plen n) ((padb n).map b8), .blk g5 55 ((hst (shamsg xs) ((n + plen n + 64 - 1) / 64)).map b32), .blk g4 33 (shaK.map b32), .blk g1 26 ((List.replicate 32 0#8).map b8), .rd A 1 n c (xs.map b8)]) (fun j => 32 - j) 0 (by first | trivial | ((try dsimp only); first | omega | (refine ⟨?_, ?_⟩ <;> omega) | (refine ⟨?_, ?_, ?_⟩ <;> omega) | (simp; done) | (simp; omega))) (sc rfl (sc rfl (sc rfl (sc rfl sn)))) [0, 1, 2, 3, 4, 5, 6] ⟨by decide, rfl⟩ ?_
    rintro j hp
    have hp : j ≤ 32 := hp
    have hpj := pre0_len (shasum xs) 32 j hsl hp
    refine T_re [(2, (.pointer (some ⟨g1, 0, none⟩))), (4, (.pointer (some ⟨g5, 0, none⟩))), (22, (.pointer (some ⟨g41, 0, none⟩))), (23, (.int .i64 ((j : Nat) : Int)))] (sc rfl (sc rfl (sc rfl (sc rfl sn)))) ?_
    refine T_he [0, 1, 2, 3, 4, 5, 6] [.blk g41 26 ((pre0 (shasum xs) 32 j).map b8), .row (.slice A12 (0 + n + (plen n)) C13) 5 1 (0 + n + (plen n)) ((xs ++ padb n).map b8), .row (.slice B10 (plen n) d11) 5 1 (plen n) ((padb n).map b8), .blk g5 55 ((hst (shamsg xs) ((n + plen n + 64 - 1) / 64)).map b32), .blk g4 33 (shaK.map b32), .blk g1 26 ((List.replicate 32 0#8).map b8), .rd A 1 n c (xs.map b8)] ⟨by decide, rfl⟩ ?_
    refine T_seq ?_
    refine T_seq ?_
    refine T_reg hF rfl ?_
    refine L_op rfl (op_pr (pr_move rfl rfl) rfl rfl ?_)
    refine L_op rfl (op_pr (pr_cmp (bo := .lss) (nc_lt (a := j) (b := 32)) rfl rfl rfl rfl) rfl rfl ?_)
    refine L_nil ?_
    refine T_re [(2, (.pointer (some ⟨g1, 0, none⟩))), (4, (.pointer (some ⟨g5, 0, none⟩))), (22, (.pointer (some ⟨g41, 0, none⟩))), (23, (.int .i64 ((j : Nat) : Int))), (224, (.bool (decide (j < 32))))] (sc rfl (sc rfl (sc rfl (sc rfl (sc rfl sn))))) ?_
    refine T_he [0, 1, 2, 3, 4, 5, 6] [.blk g41 26 ((pre0 (shasum xs) 32 j).map b8), .row (.slice A12 (0 + n + (plen n)) C13) 5 1 (0 + n + (plen n)) ((xs ++ padb n).map b8), .row (.slice B10 (plen n) d11) 5 1 (plen n) ((padb n).map b8), .blk g5 55 ((hst (shamsg xs) ((n + plen n + 64 - 1) / 64)).map b32), .blk g4 33 (shaK.map b32), .blk g1 26 ((List.replicate 32 0#8).map b8), .rd A 1 n c (xs.map b8)] ⟨by decide, rfl⟩ ?_
    refine T_cond (decide (j < 32)) rfl (fun hc_42 => ?_) (fun hc_42 => ?_)
    · skip
      have hc_42 := of_decide_eq_true hc_42
      refine T_skip ?_
      refine T_seq ?_
      refine T_block ?_
      refine T_reg hF rfl ?_
      refine L_op rfl (op_pr (pr_move rfl rfl) rfl rfl ?_)
      refine L_op rfl (op_pr (pr_move rfl rfl) rfl rfl ?_)
      refine L_op rfl (op_pr (pr_quo (a := j) (b := 4) sd sd rfl rfl rfl) rfl rfl ?_)
      refine L_op rfl (op_pr (pr_ixa (j := j / 4) (m' := j / 4) sd (by omega) Try.underlying55 (z := 1) (by kernel_rfl) rfl rfl rfl) rfl rfl ?_)
      refine L_op rfl (op_ld (ld_blk 3 rfl (get32 sd) Try.underlying32 rfl rfl rfl) rfl rfl ?_)
      refine L_op rfl (op_pr (pr_move rfl rfl) rfl rfl ?_)
      refine L_op rfl (op_pr (pr_rem (a := j) (b := 4) sd rfl rfl rfl) rfl rfl ?_)
      refine L_op rfl (op_pr (pr_mul (nm_i64 (a := 8) (b := j % 4) sd) rfl rfl rfl) rfl rfl ?_)
      refine L_op rfl (op_pr (pr_sub (ns_i64 (a := 24) (b := 8 * (j % 4)) sd sd) rfl rfl rfl) rfl rfl ?_)
      refine L_op rfl (op_pr (pr_cv (ni_u64 (a := 24 - (8 * (j % 4))) sd) Try.underlying3 Try.underlying37 rfl rfl) rfl rfl ?_)
      refine L_op rfl (op_pr (pr_shift (sh_shr32 (ath (hst (shamsg xs) ((n + plen n + 64 - 1) / 64)) (j / 4)) _ (24 - (8 * (j % 4)))) rfl rfl rfl rfl) rfl rfl ?_)
      refine L_op rfl (op_pr (pr_cv (cv32_8 _) Try.underlying32 Try.underlying5 rfl rfl) rfl rfl ?_)
      refine L_op rfl (op_pr (pr_ixa (j := j) (m' := j) sd (by omega) Try.underlying26 (z := 1) (by kernel_rfl) rfl rfl rfl) rfl rfl ?_)
      refine L_op rfl (op_store (vs := [(b8 (((ath (hst (shamsg xs) ((n + plen n + 64 - 1) / 64)) (j / 4)) >>> (24 - (8 * (j % 4)))).setWidth 8))]) (cs' := ((List.set (pre0 (shasum xs) 32 j) j (((ath (hst (shamsg xs) ((n + plen n + 64 - 1) / 64)) (j / 4)) >>> (24 - (8 * (j % 4)))).setWidth 8)).map b8)) 0 rfl rfl (by kernel_rfl) (one_one rfl) (by have : j < ((pre0 (shasum xs) 32 j)).length := sd; simp only [List.length_map, List.length_singleton]; omega) (splice_map (f := b8) sd) rfl rfl rfl rfl ?_)
      refine L_nil ?_
      refine T_re [(2, (.pointer (some ⟨g1, 0, none⟩))), (4, (.pointer (some ⟨g5, 0, none⟩))), (22, (.pointer (some ⟨g41, 0, none⟩))), (23, (.int .i64 ((j : Nat) : Int)))] (sc rfl (sc rfl (sc rfl (sc rfl sn)))) ?_
      refine T_he [0, 1, 2, 3, 4, 5, 6] [.blk g41 26 ((List.set (pre0 (shasum xs) 32 j) j (((ath (hst (shamsg xs) ((n + plen n + 64 - 1) / 64)) (j / 4)) >>> (24 - (8 * (j % 4)))).setWidth 8)).map b8), .row (.slice A12 (0 + n + (plen n)) C13) 5 1 (0 + n + (plen n)) ((xs ++ padb n).map b8), .row (.slice B10 (plen n) d11) 5 1 (plen n) ((padb n).map b8), .blk g5 55 ((hst (shamsg xs) ((n + plen n + 64 - 1) / 64)).map b32), .blk g4 33 (shaK.map b32), .blk g1 26 ((List.replicate 32 0#8).map b8), .rd A 1 n c (xs.map b8)] ⟨by decide, rfl⟩ ?_
      refine T_reg hF rfl ?_
      refine L_op rfl (op_pr (pr_move rfl rfl) rfl rfl ?_)
      refine L_op rfl (op_pr (pr_add (na_i64 (a := j) (b := 1) sd) rfl rfl rfl) rfl rfl ?_)
      refine L_op rfl (op_pr (pr_assign rfl rfl) rfl rfl ?_)
      refine L_nil ?_
      refine T_re [(2, (.pointer (some ⟨g1, 0, none⟩))), (4, (.pointer (some ⟨g5, 0, none⟩))), (22, (.pointer (some ⟨g41, 0, none⟩))), (23, (.int .i64 ((j + 1 : Nat) : Int)))] (sc rfl (sc rfl (sc rfl (sc rfl sn)))) ?_
      refine T_he [0, 1, 2, 3, 4, 5, 6] [.blk g41 26 ((List.set (pre0 (shasum xs) 32 j) j (((ath (hst (shamsg xs) ((n + plen n + 64 - 1) / 64)) (j / 4)) >>> (24 - (8 * (j % 4)))).setWidth 8)).map b8), .row (.slice A12 (0 + n + (plen n)) C13) 5 1 (0 + n + (plen n)) ((xs ++ padb n).map b8), .row (.slice B10 (plen n) d11) 5 1 (plen n) ((padb n).map b8), .blk g5 55 ((hst (shamsg xs) ((n + plen n + 64 - 1) / 64)).map b32), .blk g4 33 (shaK.map b32), .blk g1 26 ((List.replicate 32 0#8).map b8), .rd A 1 n c (xs.map b8)] ⟨by decide, rfl⟩ ?_
      refine T_as 0 (.blk g41 26 ((List.set (pre0 (shasum xs) 32 j) j (((ath (hst (shamsg xs) ((n + plen n + 64 - 1) / 64)) (j / 4)) >>> (24 - (8 * (j % 4)))).setWidth 8)).map b8)) (.blk g41 26 ((pre0 (shasum xs) 32 (j + 1)).map b8)) rfl (by rw [sumout_set _ _ hso hsl j (by omega)]) ?_
      exact T_again (j + 1) (by first | trivial | ((try dsimp only); first | omega | (refine ⟨?_, ?_⟩ <;> omega) | (refine ⟨?_, ?_, ?_⟩ <;> omega) | (simp; done) | (simp; omega))) (by first | trivial | ((try dsimp only); first | omega | (refine ⟨?_, ?_⟩ <;> omega) | (refine ⟨?_, ?_, ?_⟩ <;> omega) | (simp; done) | (simp; omega))) (sc rfl (sc rfl (sc rfl (sc rfl sn)))) [0, 1, 2, 3, 4, 5, 6] ⟨by decide, rfl⟩
    · skip
      have hc_42 := of_decide_eq_false hc_42
      refine T_exit rfl ?_
      obtain rfl : 32 = j := by omega
      refine T_seq ?_
      refine T_reg hF rfl ?_
      refine L_op rfl (op_ld (ld_agg (ds := ((pre0 (shasum xs) 32 32).map b8)) 0 rfl agg_all Try.underlying26 rfl (by rw [show (((pre0 (shasum xs) 32 32).map b8)).length = 32 from sd]; kernel_rfl) rfl rfl) rfl rfl ?_)
      refine L_op rfl (op_store (vs := ((pre0 (shasum xs) 32 32).map b8)) (cs' := ((pre0 (shasum xs) 32 32).map b8)) 5 rfl rfl (by rw [show (((pre0 (shasum xs) 32 32).map b8)).length = 32 from sd]; kernel_rfl) (all8_one _) (by have h1 : (((List.replicate 32 0#8).map b8)).length = 32 := (by kernel_rfl); have h2 : (((pre0 (shasum xs) 32 32).map b8)).length = 32 := sd; omega) (splice_all (Eq.trans (b := 32) (by kernel_rfl) (Eq.symm sd))) rfl rfl rfl rfl ?_)
      refine L_nil ?_
      refine T_re [(2, (.pointer (some ⟨g1, 0, none⟩)))] (sc rfl sn) ?_
      refine T_he [0, 1, 2, 3, 4, 5, 6] [.blk g1 26 ((pre0 (shasum xs) 32 32).map b8), .blk g41 26 ((pre0 (shasum xs) 32 32).map b8), .row (.slice A12 (0 + n + (plen n)) C13) 5 1 (0 + n + (plen n)) ((xs ++ padb n).map b8), .row (.slice B10 (plen n) d11) 5 1 (plen n) ((padb n).map b8), .blk g5 55 ((hst (shamsg xs) ((n + plen n + 64 - 1) / 64)).map b32), .blk g4 33 (shaK.map b32), .rd A 1 n c (xs.map b8)] ⟨by decide, rfl⟩ ?_
      refine T_ret ?_
      refine T_as 0 (.blk g1 26 ((pre0 (shasum xs) 32 32).map b8)) (.blk g1 26 ((shasum xs).map b8)) rfl (by rw [pre0_all _ _ hsl]) ?_
      exact T_fin () (by first | trivial | omega | (simp; done)) (resb 0 rfl rfl rfl Try.underlying26 rfl (by rw [show (((shasum xs).map b8)).length = 32 from sd]; kernel_rfl)) [] ⟨by decide, rfl⟩ rfl
end Go.Proofs.Ytmhkmamenfmolaa
