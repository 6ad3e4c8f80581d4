/- What sha.schedule and sha.mixed answer, by facts. No conditions. -/
import Derived.Test.YtmhkmamenfmolaaGSha1
import Derived.Test.YtmhkmamenfmolaaShaP
import Derived.Test.YtmhkmamenfmolaaProg
import Derived.Test.YtmhkmamenfmolaaFwU
namespace Go.Proofs.Ytmhkmamenfmolaa
set_option linter.unusedVariables false
set_option linter.unusedSimpArgs false
set_option linter.unnecessarySimpa false
open Go.RowKit Bv Fw

set_option maxHeartbeats 4000000 in
theorem schedule_f (b : List (BitVec 8)) (A : Option Addr) (c : Nat) (w : World) (hO : HOK [.rd A 1 64 c (b.map b8)] w) (hb : b.length = 64) : Calls Try.prog 47 [(.slice A 64 c)].toArray w (Ret (T := Unit) [] w (fun _ => True) (fun _ => (.agg ((schw b 64).map b32).toArray)) (fun _ => [])) := by
  have hwl := schw_len b 64
  have hF : Wid Fence.wide := wid_wide
  refine enter (c := _) Try.func47 rfl [] [(.slice A 64 c)] [.rd A 1 64 c (b.map b8)] (by rw [Try.ntmps47]; rfl) (own_rds hO rfl) ?_
  rw [Try.ntmps47]
  refine T_re [(0, (.slice A 64 c))] (sc rfl sn) ?_
  refine T_he [0] [.rd A 1 64 c (b.map b8)] ⟨by decide, rfl⟩ ?_
  refine T_seq ?_
  refine T_reg hF rfl ?_
  refine L_op rfl (op_alloc (z := .agg ((List.replicate 64 0#32).map b32).toArray) (zs := ((List.replicate 64 0#32).map b32)) (by kernel_rfl) rfl rfl rfl rfl (fun g1 => ?_))
  refine L_nil ?_
  refine T_re [(0, (.slice A 64 c)), (2, (.pointer (some ⟨g1, 0, none⟩)))] (sc rfl (sc rfl sn)) ?_
  refine T_he [0, 1] [.blk g1 33 ((List.replicate 64 0#32).map b32), .rd A 1 64 c (b.map b8)] ⟨by decide, rfl⟩ ?_
  refine T_scope rfl ?_
  refine T_seq ?_
  refine T_reg hF rfl ?_
  refine L_op rfl (op_alloc (z := .agg ((List.replicate 64 0#32).map b32).toArray) (zs := ((List.replicate 64 0#32).map b32)) (by kernel_rfl) rfl rfl rfl rfl (fun g2 => ?_))
  refine L_nil ?_
  refine T_re [(0, (.slice A 64 c)), (2, (.pointer (some ⟨g1, 0, none⟩))), (3, (.pointer (some ⟨g2, 0, none⟩)))] (sc rfl (sc rfl (sc rfl sn))) ?_
  refine T_he [0, 1, 2] [.blk g2 33 ((List.replicate 64 0#32).map b32), .blk g1 33 ((List.replicate 64 0#32).map b32), .rd A 1 64 c (b.map b8)] ⟨by decide, rfl⟩ ?_
  refine T_seq ?_
  refine T_label ?_
  refine T_seq ?_
  refine T_seq ?_
  refine T_reg hF rfl ?_
  refine L_op rfl (op_pr (pr_move rfl rfl) rfl rfl ?_)
  refine L_nil ?_
  refine T_re [(0, (.slice A 64 c)), (2, (.pointer (some ⟨g1, 0, none⟩))), (3, (.pointer (some ⟨g2, 0, none⟩))), (7, (.int .i64 ((0 : Nat) : Int)))] (sc rfl (sc rfl (sc rfl (sc rfl sn)))) ?_
  refine T_he [0, 1, 2] [.blk g2 33 ((List.replicate 64 0#32).map b32), .blk g1 33 ((List.replicate 64 0#32).map b32), .rd A 1 64 c (b.map b8)] ⟨by decide, rfl⟩ ?_
  refine T_block ?_
  refine T_as 0 (.blk g2 33 ((List.replicate 64 0#32).map b32)) (.blk g2 33 ((fil (schw b 0) 64).map b32)) rfl (by rw [← fil_zero]) ?_
  refine T_loop (T := Nat) (fun k => k ≤ 64) (fun k => [(0, (.slice A 64 c)), (2, (.pointer (some ⟨g1, 0, none⟩))), (3, (.pointer (some ⟨g2, 0, none⟩))), (7, (.int .i64 ((k : Nat) : Int)))]) (fun k => [.blk g2 33 ((fil (schw b k) 64).map b32), .blk g1 33 ((List.replicate 64 0#32).map b32), .rd A 1 64 c (b.map b8)]) (fun k => 64 - k) 0 (by first | trivial | ((try dsimp only); first | omega | (refine ⟨?_, ?_⟩ <;> omega) | (refine ⟨?_, ?_, ?_⟩ <;> omega) | (simp; done) | (simp; omega))) (sc rfl (sc rfl (sc rfl (sc rfl sn)))) [0, 1, 2] ⟨by decide, rfl⟩ ?_
  rintro k hp
  have hp : k ≤ 64 := hp
  have hl := fschw_len b k hp
  refine T_re [(0, (.slice A 64 c)), (2, (.pointer (some ⟨g1, 0, none⟩))), (3, (.pointer (some ⟨g2, 0, none⟩))), (7, (.int .i64 ((k : Nat) : Int)))] (sc rfl (sc rfl (sc rfl (sc rfl sn)))) ?_
  refine T_he [0, 1, 2] [.blk g2 33 ((fil (schw b k) 64).map b32), .blk g1 33 ((List.replicate 64 0#32).map b32), .rd A 1 64 c (b.map b8)] ⟨by decide, rfl⟩ ?_
  refine T_seq ?_
  refine T_reg hF rfl ?_
  refine L_op rfl (op_pr (pr_cmp (bo := .lss) (nc_lt (a := k) (b := 64)) rfl rfl rfl rfl) rfl rfl ?_)
  refine L_nil ?_
  refine T_re [(0, (.slice A 64 c)), (2, (.pointer (some ⟨g1, 0, none⟩))), (3, (.pointer (some ⟨g2, 0, none⟩))), (7, (.int .i64 ((k : Nat) : Int))), (8, (.bool (decide (k < 64))))] (sc rfl (sc rfl (sc rfl (sc rfl (sc rfl sn))))) ?_
  refine T_he [0, 1, 2] [.blk g2 33 ((fil (schw b k) 64).map b32), .blk g1 33 ((List.replicate 64 0#32).map b32), .rd A 1 64 c (b.map b8)] ⟨by decide, rfl⟩ ?_
  refine T_seq ?_
  refine T_cond (decide (k < 64)) rfl (fun hc_3 => ?_) (fun hc_3 => ?_)
  · skip
    have hc_3 := of_decide_eq_true hc_3
    refine T_skip ?_
    refine T_seq ?_
    refine T_block ?_
    refine T_seq ?_
    refine T_reg hF rfl ?_
    refine L_op rfl (op_pr (pr_move rfl rfl) rfl rfl ?_)
    refine L_op rfl (op_pr (pr_assign rfl rfl) rfl rfl ?_)
    refine L_nil ?_
    refine T_re [(0, (.slice A 64 c)), (2, (.pointer (some ⟨g1, 0, none⟩))), (3, (.pointer (some ⟨g2, 0, none⟩))), (4, (.int .i64 ((k : Nat) : Int))), (7, (.int .i64 ((k : Nat) : Int)))] (sc rfl (sc rfl (sc rfl (sc rfl (sc rfl sn))))) ?_
    refine T_he [0, 1, 2] [.blk g2 33 ((fil (schw b k) 64).map b32), .blk g1 33 ((List.replicate 64 0#32).map b32), .rd A 1 64 c (b.map b8)] ⟨by decide, rfl⟩ ?_
    refine T_seq ?_
    refine T_seq ?_
    refine T_reg hF rfl ?_
    refine L_op rfl (op_pr (pr_move rfl rfl) rfl rfl ?_)
    refine L_op rfl (op_pr (pr_cmp (bo := .lss) (nc_lt (a := k) (b := 16)) rfl rfl rfl rfl) rfl rfl ?_)
    refine L_nil ?_
    refine T_re [(0, (.slice A 64 c)), (2, (.pointer (some ⟨g1, 0, none⟩))), (3, (.pointer (some ⟨g2, 0, none⟩))), (4, (.int .i64 ((k : Nat) : Int))), (7, (.int .i64 ((k : Nat) : Int))), (11, (.bool (decide (k < 16))))] (sc rfl (sc rfl (sc rfl (sc rfl (sc rfl (sc rfl sn)))))) ?_
    refine T_he [0, 1, 2] [.blk g2 33 ((fil (schw b k) 64).map b32), .blk g1 33 ((List.replicate 64 0#32).map b32), .rd A 1 64 c (b.map b8)] ⟨by decide, rfl⟩ ?_
    refine T_cond (decide (k < 16)) rfl (fun hc_4 => ?_) (fun hc_4 => ?_)
    · skip
      have hc_4 := of_decide_eq_true hc_4
      refine T_seq ?_
      refine T_reg hF rfl ?_
      refine L_op rfl (op_pr (pr_move rfl rfl) rfl rfl ?_)
      refine L_op rfl (op_pr (pr_move rfl rfl) rfl rfl ?_)
      refine L_op rfl (op_pr (pr_move rfl rfl) rfl rfl ?_)
      refine L_op rfl (op_pr (pr_mul (nm_i64 (a := 4) (b := k) sd) rfl rfl rfl) rfl rfl ?_)
      refine L_op rfl (op_slice_rd (l := 4 * k) (u := 64) 2 rfl sd sd Try.underlying24 (by kernel_rfl) rfl rfl ⟨_, rfl⟩ rfl rfl rfl (fun B5 => ?_))
      refine T_as 0 _ (.rd B5 1 (64 - (4 * k)) (c - (4 * k)) ((List.drop (4 * k) b).map b8)) rfl (by congr 1; first | rfl | (rw [List.take_of_length_le (by simp; omega)]; simp)) ?_
      refine L_op rfl (op_call0 (vs := [(.slice B5 (64 - (4 * k)) (c - (4 * k))), (.int .i64 ((4 : Nat) : Int))]) (cap := []) (fun w hw => high_f (List.drop (4 * k) b) 4 B5 (64 - (4 * k)) (c - (4 * k)) w (hok_cons ((src_rd 0 rfl) w hw) (hok_nil w)) sd sd sd) (enters_of Try.func53 (by kernel_rfl) rfl) rfl rfl rfl rfl rfl (fun t6 q7 => ?_))
      refine L_op rfl (op_pr (pr_cv (cv64_32 _) Try.underlying62 Try.underlying32 rfl rfl) rfl rfl ?_)
      refine L_op rfl (op_pr (pr_ixa (j := k) (m' := k) sd (by omega) Try.underlying33 (z := 1) (by kernel_rfl) rfl rfl rfl) rfl rfl ?_)
      refine L_op rfl (op_store (vs := [(b32 ((high (List.drop (4 * k) b) 4).setWidth 32))]) (cs' := ((List.set (fil (schw b k) 64) k ((high (List.drop (4 * k) b) 4).setWidth 32)).map b32)) 1 rfl rfl (by kernel_rfl) (one_one rfl) (by have : k < (fil (schw b k) 64).length := sd; simp only [List.length_map, List.length_singleton]; omega) (splice_map (f := b32) sd) rfl rfl rfl rfl ?_)
      refine L_nil ?_
      refine T_re [(0, (.slice A 64 c)), (2, (.pointer (some ⟨g1, 0, none⟩))), (3, (.pointer (some ⟨g2, 0, none⟩))), (7, (.int .i64 ((k : Nat) : Int)))] (sc rfl (sc rfl (sc rfl (sc rfl sn)))) ?_
      refine T_he [0, 1, 2, 3] [.blk g2 33 ((List.set (fil (schw b k) 64) k ((high (List.drop (4 * k) b) 4).setWidth 32)).map b32), .rd B5 1 (64 - (4 * k)) (c - (4 * k)) ((List.drop (4 * k) b).map b8), .blk g1 33 ((List.replicate 64 0#32).map b32), .rd A 1 64 c (b.map b8)] ⟨by decide, rfl⟩ ?_
      refine T_exit rfl ?_
      refine T_reg hF rfl ?_
      refine L_op rfl (op_pr (pr_add (na_i64 (a := k) (b := 1) sd) rfl rfl rfl) rfl rfl ?_)
      refine L_op rfl (op_pr (pr_move rfl rfl) rfl rfl ?_)
      refine L_nil ?_
      refine T_re [(0, (.slice A 64 c)), (2, (.pointer (some ⟨g1, 0, none⟩))), (3, (.pointer (some ⟨g2, 0, none⟩))), (7, (.int .i64 ((k + 1 : Nat) : Int)))] (sc rfl (sc rfl (sc rfl (sc rfl sn)))) ?_
      refine T_he [0, 1, 2, 3] [.blk g2 33 ((List.set (fil (schw b k) 64) k ((high (List.drop (4 * k) b) 4).setWidth 32)).map b32), .rd B5 1 (64 - (4 * k)) (c - (4 * k)) ((List.drop (4 * k) b).map b8), .blk g1 33 ((List.replicate 64 0#32).map b32), .rd A 1 64 c (b.map b8)] ⟨by decide, rfl⟩ ?_
      refine T_as 0 (.blk g2 33 ((List.set (fil (schw b k) 64) k ((high (List.drop (4 * k) b) 4).setWidth 32)).map b32)) (.blk g2 33 ((fil (schw b (k + 1)) 64).map b32)) rfl (by rw [schw_lo b k (by omega)]) ?_
      exact T_again (k + 1) (by first | trivial | ((try dsimp only); first | omega | (refine ⟨?_, ?_⟩ <;> omega) | (refine ⟨?_, ?_, ?_⟩ <;> omega) | (simp; done) | (simp; omega))) (by first | trivial | ((try dsimp only); first | omega | (refine ⟨?_, ?_⟩ <;> omega) | (refine ⟨?_, ?_, ?_⟩ <;> omega) | (simp; done) | (simp; omega))) (sc rfl (sc rfl (sc rfl (sc rfl sn)))) [0, 2, 3] ⟨by decide, rfl⟩
    · skip
      have hc_4 := of_decide_eq_false hc_4
      refine T_skip ?_
      refine T_seq ?_
      refine T_regD [.blk g2 33 ((fil (schw b k) 64).map b32), .blk g1 33 ((List.replicate 64 0#32).map b32), .rd A 1 64 c (b.map b8)] 10 10 #[false, false, false, false, false, false, false, false, false, false] hF (by kernel_rfl) (by kernel_rfl) ?_
      refine D_pure (i := 0) [0, 1, 2] rfl (by kernel_rfl) rfl (pr_move rfl rfl) (.inr rfl) rfl rfl ?_
      refine D_pure (i := 1) [0, 1, 2] rfl (by kernel_rfl) rfl (pr_sub (ns_i64 (a := k) (b := 15) sd sd) rfl rfl rfl) (.inr rfl) rfl rfl ?_
      refine D_pure (i := 2) [0, 1, 2] rfl (by kernel_rfl) rfl (pr_ixa (j := k - 15) (m' := k - 15) sd (by omega) Try.underlying33 (z := 1) (by kernel_rfl) rfl rfl rfl) (.inr rfl) rfl rfl ?_
      refine D_pure (i := 4) [0, 1, 2] rfl (by kernel_rfl) rfl (pr_move rfl rfl) (.inr rfl) rfl rfl ?_
      refine D_pure (i := 5) [0, 1, 2] rfl (by kernel_rfl) rfl (pr_sub (ns_i64 (a := k) (b := 2) sd sd) rfl rfl rfl) (.inr rfl) rfl rfl ?_
      refine D_pure (i := 6) [0, 1, 2] rfl (by kernel_rfl) rfl (pr_ixa (j := k - 2) (m' := k - 2) sd (by omega) Try.underlying33 (z := 1) (by kernel_rfl) rfl rfl rfl) (.inr rfl) rfl rfl ?_
      refine D_take (i := 3) [0, 1, 2] rfl (by kernel_rfl) rfl (ld_blk 0 rfl (get32 sd) Try.underlying32 rfl rfl rfl) rfl rfl rfl ?_
      refine D_pure (i := 8) [0, 1, 2] rfl (by kernel_rfl) rfl (pr_assign rfl rfl) (.inr rfl) rfl rfl ?_
      refine D_take (i := 7) [0, 1, 2] rfl (by kernel_rfl) rfl (ld_blk 0 rfl (get32 sd) Try.underlying32 rfl rfl rfl) rfl rfl rfl ?_
      refine D_pure (i := 9) [0, 1, 2] rfl (by kernel_rfl) rfl (pr_assign rfl rfl) (.inr rfl) rfl rfl ?_
      refine D_done (by kernel_rfl) ?_
      refine T_re [(0, (.slice A 64 c)), (2, (.pointer (some ⟨g1, 0, none⟩))), (3, (.pointer (some ⟨g2, 0, none⟩))), (4, (.int .i64 ((k : Nat) : Int))), (5, (b32 (ath (fil (schw b k) 64) (k - 15)))), (6, (b32 (ath (fil (schw b k) 64) (k - 2)))), (7, (.int .i64 ((k : Nat) : Int)))] (sc rfl (sc rfl (sc rfl (sc rfl (sc rfl (sc rfl (sc rfl sn))))))) ?_
      refine T_he [0, 1, 2] [.blk g2 33 ((fil (schw b k) 64).map b32), .blk g1 33 ((List.replicate 64 0#32).map b32), .rd A 1 64 c (b.map b8)] ⟨by decide, rfl⟩ ?_
      refine T_regD [.blk g2 33 ((fil (schw b k) 64).map b32), .blk g1 33 ((List.replicate 64 0#32).map b32), .rd A 1 64 c (b.map b8)] 29 30 #[false, false, false, false, false, false, false, false, false, false, false, false, false, false, false, false, false, false, false, false, false, false, false, false, false, false, false, false, false, false] hF (by kernel_rfl) (by kernel_rfl) ?_
      refine D_pure (i := 0) [0, 1, 2] rfl (by kernel_rfl) rfl (pr_move rfl rfl) (.inr rfl) rfl rfl ?_
      refine D_pure (i := 1) [0, 1, 2] rfl (by kernel_rfl) rfl (pr_move rfl rfl) (.inr rfl) rfl rfl ?_
      refine D_pure (i := 2) [0, 1, 2] rfl (by kernel_rfl) rfl (pr_sub (ns_i64 (a := k) (b := 16) sd sd) rfl rfl rfl) (.inr rfl) rfl rfl ?_
      refine D_pure (i := 3) [0, 1, 2] rfl (by kernel_rfl) rfl (pr_ixa (j := k - 16) (m' := k - 16) sd (by omega) Try.underlying33 (z := 1) (by kernel_rfl) rfl rfl rfl) (.inr rfl) rfl rfl ?_
      refine D_pure (i := 5) [0, 1, 2] rfl (by kernel_rfl) rfl (pr_move rfl rfl) (.inr rfl) rfl rfl ?_
      refine D_pure (i := 7) [0, 1, 2] rfl (by kernel_rfl) rfl (pr_move rfl rfl) (.inr rfl) rfl rfl ?_
      refine D_pure (i := 10) [0, 1, 2] rfl (by kernel_rfl) rfl (pr_move rfl rfl) (.inr rfl) rfl rfl ?_
      refine D_pure (i := 11) [0, 1, 2] rfl (by kernel_rfl) rfl (pr_shift (sh_shr32 (ath (fil (schw b k) 64) (k - 15)) _ 3) rfl rfl rfl rfl) (.inr rfl) rfl rfl ?_
      refine D_pure (i := 14) [0, 1, 2] rfl (by kernel_rfl) rfl (pr_move rfl rfl) (.inr rfl) rfl rfl ?_
      refine D_pure (i := 15) [0, 1, 2] rfl (by kernel_rfl) rfl (pr_sub (ns_i64 (a := k) (b := 7) sd sd) rfl rfl rfl) (.inr rfl) rfl rfl ?_
      refine D_pure (i := 16) [0, 1, 2] rfl (by kernel_rfl) rfl (pr_ixa (j := k - 7) (m' := k - 7) sd (by omega) Try.underlying33 (z := 1) (by kernel_rfl) rfl rfl rfl) (.inr rfl) rfl rfl ?_
      refine D_pure (i := 19) [0, 1, 2] rfl (by kernel_rfl) rfl (pr_move rfl rfl) (.inr rfl) rfl rfl ?_
      refine D_pure (i := 21) [0, 1, 2] rfl (by kernel_rfl) rfl (pr_move rfl rfl) (.inr rfl) rfl rfl ?_
      refine D_pure (i := 24) [0, 1, 2] rfl (by kernel_rfl) rfl (pr_move rfl rfl) (.inr rfl) rfl rfl ?_
      refine D_pure (i := 25) [0, 1, 2] rfl (by kernel_rfl) rfl (pr_shift (sh_shr32 (ath (fil (schw b k) 64) (k - 2)) _ 10) rfl rfl rfl rfl) (.inr rfl) rfl rfl ?_
      refine D_take (i := 4) [0, 1, 2] rfl (by kernel_rfl) rfl (ld_blk 0 rfl (get32 sd) Try.underlying32 rfl rfl rfl) rfl rfl rfl ?_
      refine D_take (i := 17) [0, 1, 2] rfl (by kernel_rfl) rfl (ld_blk 0 rfl (get32 sd) Try.underlying32 rfl rfl rfl) rfl rfl rfl ?_
      refine D_one 6 _ rfl (by kernel_rfl) rfl (op_call0 (vs := [(b32 (ath (fil (schw b k) 64) (k - 15))), (.int .i64 ((7 : Nat) : Int))]) (cap := []) (fun w hw => rotated_f (ath (fil (schw b k) 64) (k - 15)) 7 w (hok_nil w) sd sd) (enters_of Try.func48 (by kernel_rfl) rfl) rfl rfl rfl rfl rfl (fun t8 q9 => ?_))
      refine D_on [0, 1, 2] rfl ?_
      refine D_one 8 _ rfl (by kernel_rfl) rfl (op_call0 (vs := [(b32 (ath (fil (schw b k) 64) (k - 15))), (.int .i64 ((18 : Nat) : Int))]) (cap := []) (fun w hw => rotated_f (ath (fil (schw b k) 64) (k - 15)) 18 w (hok_nil w) sd sd) (enters_of Try.func48 (by kernel_rfl) rfl) rfl rfl rfl rfl rfl (fun t10 q11 => ?_))
      refine D_on [0, 1, 2] rfl ?_
      refine D_pure (i := 9) [0, 1, 2] rfl (by kernel_rfl) rfl (pr_xor (ib_xor32 _ _) rfl rfl rfl) (.inr rfl) rfl rfl ?_
      refine D_pure (i := 12) [0, 1, 2] rfl (by kernel_rfl) rfl (pr_xor (ib_xor32 _ _) rfl rfl rfl) (.inr rfl) rfl rfl ?_
      refine D_pure (i := 13) [0, 1, 2] rfl (by kernel_rfl) rfl (pr_add (add32 _ _) rfl rfl rfl) (.inr rfl) rfl rfl ?_
      refine D_pure (i := 18) [0, 1, 2] rfl (by kernel_rfl) rfl (pr_add (add32 _ _) rfl rfl rfl) (.inr rfl) rfl rfl ?_
      refine D_one 20 _ rfl (by kernel_rfl) rfl (op_call0 (vs := [(b32 (ath (fil (schw b k) 64) (k - 2))), (.int .i64 ((17 : Nat) : Int))]) (cap := []) (fun w hw => rotated_f (ath (fil (schw b k) 64) (k - 2)) 17 w (hok_nil w) sd sd) (enters_of Try.func48 (by kernel_rfl) rfl) rfl rfl rfl rfl rfl (fun t12 q13 => ?_))
      refine D_on [0, 1, 2] rfl ?_
      refine D_one 22 _ rfl (by kernel_rfl) rfl (op_call0 (vs := [(b32 (ath (fil (schw b k) 64) (k - 2))), (.int .i64 ((19 : Nat) : Int))]) (cap := []) (fun w hw => rotated_f (ath (fil (schw b k) 64) (k - 2)) 19 w (hok_nil w) sd sd) (enters_of Try.func48 (by kernel_rfl) rfl) rfl rfl rfl rfl rfl (fun t14 q15 => ?_))
      refine D_on [0, 1, 2] rfl ?_
      refine D_pure (i := 23) [0, 1, 2] rfl (by kernel_rfl) rfl (pr_xor (ib_xor32 _ _) rfl rfl rfl) (.inr rfl) rfl rfl ?_
      refine D_pure (i := 26) [0, 1, 2] rfl (by kernel_rfl) rfl (pr_xor (ib_xor32 _ _) rfl rfl rfl) (.inr rfl) rfl rfl ?_
      refine D_pure (i := 27) [0, 1, 2] rfl (by kernel_rfl) rfl (pr_add (add32 _ _) rfl rfl rfl) (.inr rfl) rfl rfl ?_
      refine D_pure (i := 28) [0, 1, 2] rfl (by kernel_rfl) rfl (pr_ixa (j := k) (m' := k) sd (by omega) Try.underlying33 (z := 1) (by kernel_rfl) rfl rfl rfl) (.inr rfl) rfl rfl ?_
      refine D_one 29 _ rfl (by kernel_rfl) rfl (op_store (vs := [(b32 ((((ath (fil (schw b k) 64) (k - 16)) + (((ror32 (ath (fil (schw b k) 64) (k - 15)) 7) ^^^ (ror32 (ath (fil (schw b k) 64) (k - 15)) 18)) ^^^ ((ath (fil (schw b k) 64) (k - 15)) >>> 3))) + (ath (fil (schw b k) 64) (k - 7))) + (((ror32 (ath (fil (schw b k) 64) (k - 2)) 17) ^^^ (ror32 (ath (fil (schw b k) 64) (k - 2)) 19)) ^^^ ((ath (fil (schw b k) 64) (k - 2)) >>> 10))))]) (cs' := ((List.set (fil (schw b k) 64) k ((((ath (fil (schw b k) 64) (k - 16)) + (((ror32 (ath (fil (schw b k) 64) (k - 15)) 7) ^^^ (ror32 (ath (fil (schw b k) 64) (k - 15)) 18)) ^^^ ((ath (fil (schw b k) 64) (k - 15)) >>> 3))) + (ath (fil (schw b k) 64) (k - 7))) + (((ror32 (ath (fil (schw b k) 64) (k - 2)) 17) ^^^ (ror32 (ath (fil (schw b k) 64) (k - 2)) 19)) ^^^ ((ath (fil (schw b k) 64) (k - 2)) >>> 10)))).map b32)) 0 rfl rfl (by kernel_rfl) (one_one rfl) (by have : k < (fil (schw b k) 64).length := sd; simp only [List.length_map, List.length_singleton]; omega) (splice_map (f := b32) sd) rfl rfl rfl rfl ?_)
      refine D_past (by kernel_rfl) ?_
      refine D_done (by kernel_rfl) ?_
      refine T_re [(0, (.slice A 64 c)), (2, (.pointer (some ⟨g1, 0, none⟩))), (3, (.pointer (some ⟨g2, 0, none⟩))), (7, (.int .i64 ((k : Nat) : Int)))] (sc rfl (sc rfl (sc rfl (sc rfl sn)))) ?_
      refine T_he [0, 1, 2] [.blk g2 33 ((List.set (fil (schw b k) 64) k ((((ath (fil (schw b k) 64) (k - 16)) + (((ror32 (ath (fil (schw b k) 64) (k - 15)) 7) ^^^ (ror32 (ath (fil (schw b k) 64) (k - 15)) 18)) ^^^ ((ath (fil (schw b k) 64) (k - 15)) >>> 3))) + (ath (fil (schw b k) 64) (k - 7))) + (((ror32 (ath (fil (schw b k) 64) (k - 2)) 17) ^^^ (ror32 (ath (fil (schw b k) 64) (k - 2)) 19)) ^^^ ((ath (fil (schw b k) 64) (k - 2)) >>> 10)))).map b32), .blk g1 33 ((List.replicate 64 0#32).map b32), .rd A 1 64 c (b.map b8)] ⟨by decide, rfl⟩ ?_
      refine T_reg hF rfl ?_
      refine L_op rfl (op_pr (pr_add (na_i64 (a := k) (b := 1) sd) rfl rfl rfl) rfl rfl ?_)
      refine L_op rfl (op_pr (pr_move rfl rfl) rfl rfl ?_)
      refine L_nil ?_
      refine T_re [(0, (.slice A 64 c)), (2, (.pointer (some ⟨g1, 0, none⟩))), (3, (.pointer (some ⟨g2, 0, none⟩))), (7, (.int .i64 ((k + 1 : Nat) : Int)))] (sc rfl (sc rfl (sc rfl (sc rfl sn)))) ?_
      refine T_he [0, 1, 2] [.blk g2 33 ((List.set (fil (schw b k) 64) k ((((ath (fil (schw b k) 64) (k - 16)) + (((ror32 (ath (fil (schw b k) 64) (k - 15)) 7) ^^^ (ror32 (ath (fil (schw b k) 64) (k - 15)) 18)) ^^^ ((ath (fil (schw b k) 64) (k - 15)) >>> 3))) + (ath (fil (schw b k) 64) (k - 7))) + (((ror32 (ath (fil (schw b k) 64) (k - 2)) 17) ^^^ (ror32 (ath (fil (schw b k) 64) (k - 2)) 19)) ^^^ ((ath (fil (schw b k) 64) (k - 2)) >>> 10)))).map b32), .blk g1 33 ((List.replicate 64 0#32).map b32), .rd A 1 64 c (b.map b8)] ⟨by decide, rfl⟩ ?_
      refine T_as 0 (.blk g2 33 ((List.set (fil (schw b k) 64) k ((((ath (fil (schw b k) 64) (k - 16)) + (((ror32 (ath (fil (schw b k) 64) (k - 15)) 7) ^^^ (ror32 (ath (fil (schw b k) 64) (k - 15)) 18)) ^^^ ((ath (fil (schw b k) 64) (k - 15)) >>> 3))) + (ath (fil (schw b k) 64) (k - 7))) + (((ror32 (ath (fil (schw b k) 64) (k - 2)) 17) ^^^ (ror32 (ath (fil (schw b k) 64) (k - 2)) 19)) ^^^ ((ath (fil (schw b k) 64) (k - 2)) >>> 10)))).map b32)) (.blk g2 33 ((fil (schw b (k + 1)) 64).map b32)) rfl (by rw [sig0_def, sig1_def, schw_hi b k (by omega) (by omega) _ rfl]) ?_
      exact T_again (k + 1) (by first | trivial | ((try dsimp only); first | omega | (refine ⟨?_, ?_⟩ <;> omega) | (refine ⟨?_, ?_, ?_⟩ <;> omega) | (simp; done) | (simp; omega))) (by first | trivial | ((try dsimp only); first | omega | (refine ⟨?_, ?_⟩ <;> omega) | (refine ⟨?_, ?_, ?_⟩ <;> omega) | (simp; done) | (simp; omega))) (sc rfl (sc rfl (sc rfl (sc rfl sn)))) [0, 1, 2] ⟨by decide, rfl⟩
  · skip
    have hc_3 := of_decide_eq_false hc_3
    refine T_exit rfl ?_
    refine T_seq ?_
    refine T_reg hF rfl ?_
    refine L_op rfl (op_ld (ld_agg (ds := ((fil (schw b k) 64).map b32)) 0 rfl agg_all Try.underlying33 rfl (by rw [show (((fil (schw b k) 64).map b32)).length = 64 from sd]; kernel_rfl) rfl rfl) rfl rfl ?_)
    refine L_op rfl (op_store (vs := ((fil (schw b k) 64).map b32)) (cs' := ((fil (schw b k) 64).map b32)) 1 rfl rfl (by rw [show (((fil (schw b k) 64).map b32)).length = 64 from sd]; kernel_rfl) (all32_one _) (by have h1 : (((List.replicate 64 0#32).map b32)).length = 64 := (by kernel_rfl); have h2 : (((fil (schw b k) 64).map b32)).length = 64 := sd; omega) (splice_all (Eq.trans (b := 64) (by kernel_rfl) (Eq.symm sd))) rfl rfl rfl rfl ?_)
    refine L_nil ?_
    refine T_re [(2, (.pointer (some ⟨g1, 0, none⟩)))] (sc rfl sn) ?_
    refine T_he [0, 1, 2] [.blk g1 33 ((fil (schw b k) 64).map b32), .blk g2 33 ((fil (schw b k) 64).map b32), .rd A 1 64 c (b.map b8)] ⟨by decide, rfl⟩ ?_
    refine T_ret ?_
    obtain rfl : 64 = k := by omega
    refine T_as 0 (.blk g1 33 ((fil (schw b 64) 64).map b32)) (.blk g1 33 ((schw b 64).map b32)) rfl (by rw [fil_all]) ?_
    exact T_fin () (by first | trivial | omega | (simp; done)) (resb 0 rfl rfl rfl Try.underlying33 rfl (by rw [show (((schw b 64).map b32)).length = 64 from sd]; kernel_rfl)) [] ⟨by decide, rfl⟩ rfl
set_option maxHeartbeats 4000000 in
theorem mixed_f (s : List (BitVec 32)) (gk : Nat) (b : List (BitVec 8)) (A : Option Addr) (c : Nat) (w : World) (hO : HOK [.rd (some ⟨gk, 0, none⟩) 1 64 64 (shaK.map b32), .rd A 1 64 c (b.map b8)] w) (hs : s.length = 8) (hb : b.length = 64) : Calls Try.prog 38 [(.agg (s.map b32).toArray), (.pointer (some ⟨gk, 0, none⟩)), (.slice A 64 c)].toArray w (Ret (T := Unit) [] w (fun _ => True) (fun _ => (.agg ((mixb s b).map b32).toArray)) (fun _ => [])) := by
  have hwl := schw_len b 64
  have hmx := (mixb_len s b).trans hs
  have hkl : shaK.length = 64 := shaK_len
  have hrl := rounds_len s (schw b 64) hs
  have hal := fun a k => (addt_len s a k).trans hs
  have hF : Wid Fence.wide := wid_wide
  refine enter (c := _) Try.func38 rfl [] [(.agg (s.map b32).toArray), (.pointer (some ⟨gk, 0, none⟩)), (.slice A 64 c)] [.rd (some ⟨gk, 0, none⟩) 1 64 64 (shaK.map b32), .rd A 1 64 c (b.map b8)] (by rw [Try.ntmps38]; rfl) (own_rds hO rfl) ?_
  rw [Try.ntmps38]
  refine T_re [(0, (.agg (s.map b32).toArray)), (1, (.pointer (some ⟨gk, 0, none⟩))), (2, (.slice A 64 c))] (sc rfl (sc rfl (sc rfl sn))) ?_
  refine T_he [0, 1] [.rd (some ⟨gk, 0, none⟩) 1 64 64 (shaK.map b32), .rd A 1 64 c (b.map b8)] ⟨by decide, rfl⟩ ?_
  refine T_seq ?_
  refine T_reg hF rfl ?_
  refine L_op rfl (op_box (zs := (s.map b32)) rfl rfl rfl rfl rfl (fun g1 => ?_))
  refine L_op rfl (op_alloc (z := .agg [(b32 (0#32)), (b32 (0#32)), (b32 (0#32)), (b32 (0#32)), (b32 (0#32)), (b32 (0#32)), (b32 (0#32)), (b32 (0#32))].toArray) (zs := [(b32 (0#32)), (b32 (0#32)), (b32 (0#32)), (b32 (0#32)), (b32 (0#32)), (b32 (0#32)), (b32 (0#32)), (b32 (0#32))]) (by kernel_rfl) rfl rfl rfl rfl (fun g2 => ?_))
  refine L_nil ?_
  refine T_re [(1, (.pointer (some ⟨gk, 0, none⟩))), (2, (.slice A 64 c)), (3, (.pointer (some ⟨g1, 0, none⟩))), (6, (.pointer (some ⟨g2, 0, none⟩)))] (sc rfl (sc rfl (sc rfl (sc rfl sn)))) ?_
  refine T_he [0, 1, 2, 3] [.blk g2 55 [(b32 (0#32)), (b32 (0#32)), (b32 (0#32)), (b32 (0#32)), (b32 (0#32)), (b32 (0#32)), (b32 (0#32)), (b32 (0#32))], .blk g1 55 (s.map b32), .rd (some ⟨gk, 0, none⟩) 1 64 64 (shaK.map b32), .rd A 1 64 c (b.map b8)] ⟨by decide, rfl⟩ ?_
  refine T_seq ?_
  refine T_regD [.blk g2 55 [(b32 (0#32)), (b32 (0#32)), (b32 (0#32)), (b32 (0#32)), (b32 (0#32)), (b32 (0#32)), (b32 (0#32)), (b32 (0#32))], .blk g1 55 (s.map b32), .rd (some ⟨gk, 0, none⟩) 1 64 64 (shaK.map b32), .rd A 1 64 c (b.map b8)] 5 7 #[false, false, false, false, false, false, false] hF (by kernel_rfl) (by kernel_rfl) ?_
  refine D_pure (i := 1) [0, 1, 2, 3] rfl (by kernel_rfl) rfl (pr_move rfl rfl) (.inr rfl) rfl rfl ?_
  refine D_take (i := 0) [0, 1, 2, 3] rfl (by kernel_rfl) rfl (ld_agg (ds := (s.map b32)) 1 rfl agg_all Try.underlying55 rfl (by rw [show ((s.map b32)).length = 8 from sd]; kernel_rfl) rfl rfl) rfl rfl rfl ?_
  refine D_join (T := Nat × Nat) (fun _ => True) (fun ⟨g5, g6⟩ => [(1, (.pointer (some ⟨gk, 0, none⟩))), (3, (.pointer (some ⟨g1, 0, none⟩))), (6, (.pointer (some ⟨g2, 0, none⟩))), (7, (.pointer (some ⟨g5, 0, none⟩))), (8, (.pointer (some ⟨g6, 0, none⟩)))]) (fun ⟨g5, g6⟩ => [.blk g6 33 ((schw b 64).map b32), .blk g5 55 (s.map b32), .blk g2 55 [(b32 (0#32)), (b32 (0#32)), (b32 (0#32)), (b32 (0#32)), (b32 (0#32)), (b32 (0#32)), (b32 (0#32)), (b32 (0#32))], .blk g1 55 (s.map b32), .rd (some ⟨gk, 0, none⟩) 1 64 64 (shaK.map b32), .rd A 1 64 c (b.map b8)]) ?_ ?_
  · skip
    refine D_all [2, 3, 4] (by kernel_rfl) (by simp) ⟨⟨_, rfl, rfl, ?_⟩, ⟨_, rfl, rfl, ?_⟩, ⟨_, rfl, rfl, ?_⟩, trivial⟩
    · skip
      refine id (op_call0 (vs := [(.slice A 64 c)]) (cap := []) (fun w hw => schedule_f b A c w (hok_cons ((src_rd 3 rfl) w hw) (hok_nil w)) sd) (enters_of Try.func47 (by kernel_rfl) rfl) rfl rfl rfl rfl rfl (fun t7 q8 => ?_))
      refine D_on [0, 1, 2, 3] rfl ?_
      refine D_all [3, 4] (by kernel_rfl) (by simp) ⟨⟨_, rfl, rfl, ?_⟩, ⟨_, rfl, rfl, ?_⟩, trivial⟩
      · skip
        refine id (op_alloc (z := .agg [(b32 (0#32)), (b32 (0#32)), (b32 (0#32)), (b32 (0#32)), (b32 (0#32)), (b32 (0#32)), (b32 (0#32)), (b32 (0#32))].toArray) (zs := [(b32 (0#32)), (b32 (0#32)), (b32 (0#32)), (b32 (0#32)), (b32 (0#32)), (b32 (0#32)), (b32 (0#32)), (b32 (0#32))]) (by kernel_rfl) rfl rfl rfl rfl (fun g9 => ?_))
        refine D_on [1, 2, 3, 4] rfl ?_
        refine D_one 4 _ rfl (by kernel_rfl) rfl (op_alloc (z := .agg ((List.replicate 64 0#32).map b32).toArray) (zs := ((List.replicate 64 0#32).map b32)) (by kernel_rfl) rfl rfl rfl rfl (fun g10 => ?_))
        refine D_on [2, 3, 4, 5] rfl ?_
        refine D_one 5 _ rfl (by kernel_rfl) rfl (op_store (vs := (s.map b32)) (cs' := (s.map b32)) 1 rfl rfl (by rw [show ((s.map b32)).length = 8 from sd]; kernel_rfl) (all32_one _) (by have h1 : ([(b32 (0#32)), (b32 (0#32)), (b32 (0#32)), (b32 (0#32)), (b32 (0#32)), (b32 (0#32)), (b32 (0#32)), (b32 (0#32))]).length = 8 := (by kernel_rfl); have h2 : ((s.map b32)).length = 8 := sd; omega) (splice_all (Eq.trans (b := 8) (by kernel_rfl) (Eq.symm sd))) rfl rfl rfl rfl ?_)
        refine D_past (by kernel_rfl) ?_
        refine D_one 6 _ rfl (by kernel_rfl) rfl (op_store (vs := ((schw b 64).map b32)) (cs' := ((schw b 64).map b32)) 1 rfl rfl (by rw [show (((schw b 64).map b32)).length = 64 from sd]; kernel_rfl) (all32_one _) (by have h1 : (((List.replicate 64 0#32).map b32)).length = 64 := (by kernel_rfl); have h2 : (((schw b 64).map b32)).length = 64 := sd; omega) (splice_all (Eq.trans (b := 64) (by kernel_rfl) (Eq.symm sd))) rfl rfl rfl rfl ?_)
        refine D_past (by kernel_rfl) ?_
        refine D_done (by kernel_rfl) ?_
        exact T_meet (g9, g10) trivial (sc rfl (sc rfl (sc rfl (sc rfl (sc rfl sn))))) [0, 1, 2, 3, 4, 5] ⟨by decide, rfl⟩
      · skip
        refine id (op_alloc (z := .agg ((List.replicate 64 0#32).map b32).toArray) (zs := ((List.replicate 64 0#32).map b32)) (by kernel_rfl) rfl rfl rfl rfl (fun g11 => ?_))
        refine D_on [1, 2, 3, 4] rfl ?_
        refine D_one 3 _ rfl (by kernel_rfl) rfl (op_alloc (z := .agg [(b32 (0#32)), (b32 (0#32)), (b32 (0#32)), (b32 (0#32)), (b32 (0#32)), (b32 (0#32)), (b32 (0#32)), (b32 (0#32))].toArray) (zs := [(b32 (0#32)), (b32 (0#32)), (b32 (0#32)), (b32 (0#32)), (b32 (0#32)), (b32 (0#32)), (b32 (0#32)), (b32 (0#32))]) (by kernel_rfl) rfl rfl rfl rfl (fun g12 => ?_))
        refine D_on [2, 3, 4, 5] rfl ?_
        refine D_one 5 _ rfl (by kernel_rfl) rfl (op_store (vs := (s.map b32)) (cs' := (s.map b32)) 0 rfl rfl (by rw [show ((s.map b32)).length = 8 from sd]; kernel_rfl) (all32_one _) (by have h1 : ([(b32 (0#32)), (b32 (0#32)), (b32 (0#32)), (b32 (0#32)), (b32 (0#32)), (b32 (0#32)), (b32 (0#32)), (b32 (0#32))]).length = 8 := (by kernel_rfl); have h2 : ((s.map b32)).length = 8 := sd; omega) (splice_all (Eq.trans (b := 8) (by kernel_rfl) (Eq.symm sd))) rfl rfl rfl rfl ?_)
        refine D_past (by kernel_rfl) ?_
        refine D_one 6 _ rfl (by kernel_rfl) rfl (op_store (vs := ((schw b 64).map b32)) (cs' := ((schw b 64).map b32)) 1 rfl rfl (by rw [show (((schw b 64).map b32)).length = 64 from sd]; kernel_rfl) (all32_one _) (by have h1 : (((List.replicate 64 0#32).map b32)).length = 64 := (by kernel_rfl); have h2 : (((schw b 64).map b32)).length = 64 := sd; omega) (splice_all (Eq.trans (b := 64) (by kernel_rfl) (Eq.symm sd))) rfl rfl rfl rfl ?_)
        refine D_past (by kernel_rfl) ?_
        refine D_done (by kernel_rfl) ?_
        exact T_meet (g12, g11) trivial (sc rfl (sc rfl (sc rfl (sc rfl (sc rfl sn))))) [0, 1, 2, 3, 4, 5] ⟨by decide, rfl⟩
    · skip
      refine id (op_alloc (z := .agg [(b32 (0#32)), (b32 (0#32)), (b32 (0#32)), (b32 (0#32)), (b32 (0#32)), (b32 (0#32)), (b32 (0#32)), (b32 (0#32))].toArray) (zs := [(b32 (0#32)), (b32 (0#32)), (b32 (0#32)), (b32 (0#32)), (b32 (0#32)), (b32 (0#32)), (b32 (0#32)), (b32 (0#32))]) (by kernel_rfl) rfl rfl rfl rfl (fun g13 => ?_))
      refine D_on [1, 2, 3, 4] rfl ?_
      refine D_all [2, 4] (by kernel_rfl) (by simp) ⟨⟨_, rfl, rfl, ?_⟩, ⟨_, rfl, rfl, ?_⟩, trivial⟩
      · skip
        refine id (op_call0 (vs := [(.slice A 64 c)]) (cap := []) (fun w hw => schedule_f b A c w (hok_cons ((src_rd 4 rfl) w hw) (hok_nil w)) sd) (enters_of Try.func47 (by kernel_rfl) rfl) rfl rfl rfl rfl rfl (fun t14 q15 => ?_))
        refine D_on [1, 2, 3, 4] rfl ?_
        refine D_one 4 _ rfl (by kernel_rfl) rfl (op_alloc (z := .agg ((List.replicate 64 0#32).map b32).toArray) (zs := ((List.replicate 64 0#32).map b32)) (by kernel_rfl) rfl rfl rfl rfl (fun g16 => ?_))
        refine D_on [2, 3, 4, 5] rfl ?_
        refine D_one 5 _ rfl (by kernel_rfl) rfl (op_store (vs := (s.map b32)) (cs' := (s.map b32)) 1 rfl rfl (by rw [show ((s.map b32)).length = 8 from sd]; kernel_rfl) (all32_one _) (by have h1 : ([(b32 (0#32)), (b32 (0#32)), (b32 (0#32)), (b32 (0#32)), (b32 (0#32)), (b32 (0#32)), (b32 (0#32)), (b32 (0#32))]).length = 8 := (by kernel_rfl); have h2 : ((s.map b32)).length = 8 := sd; omega) (splice_all (Eq.trans (b := 8) (by kernel_rfl) (Eq.symm sd))) rfl rfl rfl rfl ?_)
        refine D_past (by kernel_rfl) ?_
        refine D_one 6 _ rfl (by kernel_rfl) rfl (op_store (vs := ((schw b 64).map b32)) (cs' := ((schw b 64).map b32)) 1 rfl rfl (by rw [show (((schw b 64).map b32)).length = 64 from sd]; kernel_rfl) (all32_one _) (by have h1 : (((List.replicate 64 0#32).map b32)).length = 64 := (by kernel_rfl); have h2 : (((schw b 64).map b32)).length = 64 := sd; omega) (splice_all (Eq.trans (b := 64) (by kernel_rfl) (Eq.symm sd))) rfl rfl rfl rfl ?_)
        refine D_past (by kernel_rfl) ?_
        refine D_done (by kernel_rfl) ?_
        exact T_meet (g13, g16) trivial (sc rfl (sc rfl (sc rfl (sc rfl (sc rfl sn))))) [0, 1, 2, 3, 4, 5] ⟨by decide, rfl⟩
      · skip
        refine id (op_alloc (z := .agg ((List.replicate 64 0#32).map b32).toArray) (zs := ((List.replicate 64 0#32).map b32)) (by kernel_rfl) rfl rfl rfl rfl (fun g17 => ?_))
        refine D_on [2, 3, 4, 5] rfl ?_
        refine D_one 2 _ rfl (by kernel_rfl) rfl (op_call0 (vs := [(.slice A 64 c)]) (cap := []) (fun w hw => schedule_f b A c w (hok_cons ((src_rd 5 rfl) w hw) (hok_nil w)) sd) (enters_of Try.func47 (by kernel_rfl) rfl) rfl rfl rfl rfl rfl (fun t18 q19 => ?_))
        refine D_on [2, 3, 4, 5] rfl ?_
        refine D_one 5 _ rfl (by kernel_rfl) rfl (op_store (vs := (s.map b32)) (cs' := (s.map b32)) 1 rfl rfl (by rw [show ((s.map b32)).length = 8 from sd]; kernel_rfl) (all32_one _) (by have h1 : ([(b32 (0#32)), (b32 (0#32)), (b32 (0#32)), (b32 (0#32)), (b32 (0#32)), (b32 (0#32)), (b32 (0#32)), (b32 (0#32))]).length = 8 := (by kernel_rfl); have h2 : ((s.map b32)).length = 8 := sd; omega) (splice_all (Eq.trans (b := 8) (by kernel_rfl) (Eq.symm sd))) rfl rfl rfl rfl ?_)
        refine D_past (by kernel_rfl) ?_
        refine D_one 6 _ rfl (by kernel_rfl) rfl (op_store (vs := ((schw b 64).map b32)) (cs' := ((schw b 64).map b32)) 1 rfl rfl (by rw [show (((schw b 64).map b32)).length = 64 from sd]; kernel_rfl) (all32_one _) (by have h1 : (((List.replicate 64 0#32).map b32)).length = 64 := (by kernel_rfl); have h2 : (((schw b 64).map b32)).length = 64 := sd; omega) (splice_all (Eq.trans (b := 64) (by kernel_rfl) (Eq.symm sd))) rfl rfl rfl rfl ?_)
        refine D_past (by kernel_rfl) ?_
        refine D_done (by kernel_rfl) ?_
        exact T_meet (g13, g17) trivial (sc rfl (sc rfl (sc rfl (sc rfl (sc rfl sn))))) [0, 1, 2, 3, 4, 5] ⟨by decide, rfl⟩
    · skip
      refine id (op_alloc (z := .agg ((List.replicate 64 0#32).map b32).toArray) (zs := ((List.replicate 64 0#32).map b32)) (by kernel_rfl) rfl rfl rfl rfl (fun g20 => ?_))
      refine D_on [1, 2, 3, 4] rfl ?_
      refine D_all [2, 3] (by kernel_rfl) (by simp) ⟨⟨_, rfl, rfl, ?_⟩, ⟨_, rfl, rfl, ?_⟩, trivial⟩
      · skip
        refine id (op_call0 (vs := [(.slice A 64 c)]) (cap := []) (fun w hw => schedule_f b A c w (hok_cons ((src_rd 4 rfl) w hw) (hok_nil w)) sd) (enters_of Try.func47 (by kernel_rfl) rfl) rfl rfl rfl rfl rfl (fun t21 q22 => ?_))
        refine D_on [1, 2, 3, 4] rfl ?_
        refine D_one 3 _ rfl (by kernel_rfl) rfl (op_alloc (z := .agg [(b32 (0#32)), (b32 (0#32)), (b32 (0#32)), (b32 (0#32)), (b32 (0#32)), (b32 (0#32)), (b32 (0#32)), (b32 (0#32))].toArray) (zs := [(b32 (0#32)), (b32 (0#32)), (b32 (0#32)), (b32 (0#32)), (b32 (0#32)), (b32 (0#32)), (b32 (0#32)), (b32 (0#32))]) (by kernel_rfl) rfl rfl rfl rfl (fun g23 => ?_))
        refine D_on [2, 3, 4, 5] rfl ?_
        refine D_one 5 _ rfl (by kernel_rfl) rfl (op_store (vs := (s.map b32)) (cs' := (s.map b32)) 0 rfl rfl (by rw [show ((s.map b32)).length = 8 from sd]; kernel_rfl) (all32_one _) (by have h1 : ([(b32 (0#32)), (b32 (0#32)), (b32 (0#32)), (b32 (0#32)), (b32 (0#32)), (b32 (0#32)), (b32 (0#32)), (b32 (0#32))]).length = 8 := (by kernel_rfl); have h2 : ((s.map b32)).length = 8 := sd; omega) (splice_all (Eq.trans (b := 8) (by kernel_rfl) (Eq.symm sd))) rfl rfl rfl rfl ?_)
        refine D_past (by kernel_rfl) ?_
        refine D_one 6 _ rfl (by kernel_rfl) rfl (op_store (vs := ((schw b 64).map b32)) (cs' := ((schw b 64).map b32)) 1 rfl rfl (by rw [show (((schw b 64).map b32)).length = 64 from sd]; kernel_rfl) (all32_one _) (by have h1 : (((List.replicate 64 0#32).map b32)).length = 64 := (by kernel_rfl); have h2 : (((schw b 64).map b32)).length = 64 := sd; omega) (splice_all (Eq.trans (b := 64) (by kernel_rfl) (Eq.symm sd))) rfl rfl rfl rfl ?_)
        refine D_past (by kernel_rfl) ?_
        refine D_done (by kernel_rfl) ?_
        exact T_meet (g23, g20) trivial (sc rfl (sc rfl (sc rfl (sc rfl (sc rfl sn))))) [0, 1, 2, 3, 4, 5] ⟨by decide, rfl⟩
      · skip
        refine id (op_alloc (z := .agg [(b32 (0#32)), (b32 (0#32)), (b32 (0#32)), (b32 (0#32)), (b32 (0#32)), (b32 (0#32)), (b32 (0#32)), (b32 (0#32))].toArray) (zs := [(b32 (0#32)), (b32 (0#32)), (b32 (0#32)), (b32 (0#32)), (b32 (0#32)), (b32 (0#32)), (b32 (0#32)), (b32 (0#32))]) (by kernel_rfl) rfl rfl rfl rfl (fun g24 => ?_))
        refine D_on [2, 3, 4, 5] rfl ?_
        refine D_one 2 _ rfl (by kernel_rfl) rfl (op_call0 (vs := [(.slice A 64 c)]) (cap := []) (fun w hw => schedule_f b A c w (hok_cons ((src_rd 5 rfl) w hw) (hok_nil w)) sd) (enters_of Try.func47 (by kernel_rfl) rfl) rfl rfl rfl rfl rfl (fun t25 q26 => ?_))
        refine D_on [2, 3, 4, 5] rfl ?_
        refine D_one 5 _ rfl (by kernel_rfl) rfl (op_store (vs := (s.map b32)) (cs' := (s.map b32)) 0 rfl rfl (by rw [show ((s.map b32)).length = 8 from sd]; kernel_rfl) (all32_one _) (by have h1 : ([(b32 (0#32)), (b32 (0#32)), (b32 (0#32)), (b32 (0#32)), (b32 (0#32)), (b32 (0#32)), (b32 (0#32)), (b32 (0#32))]).length = 8 := (by kernel_rfl); have h2 : ((s.map b32)).length = 8 := sd; omega) (splice_all (Eq.trans (b := 8) (by kernel_rfl) (Eq.symm sd))) rfl rfl rfl rfl ?_)
        refine D_past (by kernel_rfl) ?_
        refine D_one 6 _ rfl (by kernel_rfl) rfl (op_store (vs := ((schw b 64).map b32)) (cs' := ((schw b 64).map b32)) 1 rfl rfl (by rw [show (((schw b 64).map b32)).length = 64 from sd]; kernel_rfl) (all32_one _) (by have h1 : (((List.replicate 64 0#32).map b32)).length = 64 := (by kernel_rfl); have h2 : (((schw b 64).map b32)).length = 64 := sd; omega) (splice_all (Eq.trans (b := 64) (by kernel_rfl) (Eq.symm sd))) rfl rfl rfl rfl ?_)
        refine D_past (by kernel_rfl) ?_
        refine D_done (by kernel_rfl) ?_
        exact T_meet (g24, g20) trivial (sc rfl (sc rfl (sc rfl (sc rfl (sc rfl sn))))) [0, 1, 2, 3, 4, 5] ⟨by decide, rfl⟩
  · rintro ⟨g5, g6⟩ -
    refine T_re [(1, (.pointer (some ⟨gk, 0, none⟩))), (3, (.pointer (some ⟨g1, 0, none⟩))), (6, (.pointer (some ⟨g2, 0, none⟩))), (7, (.pointer (some ⟨g5, 0, none⟩))), (8, (.pointer (some ⟨g6, 0, none⟩)))] (sc rfl (sc rfl (sc rfl (sc rfl (sc rfl sn))))) ?_
    refine T_he [0, 1, 2, 3, 4, 5] [.blk g6 33 ((schw b 64).map b32), .blk g5 55 (s.map b32), .blk g2 55 [(b32 (0#32)), (b32 (0#32)), (b32 (0#32)), (b32 (0#32)), (b32 (0#32)), (b32 (0#32)), (b32 (0#32)), (b32 (0#32))], .blk g1 55 (s.map b32), .rd (some ⟨gk, 0, none⟩) 1 64 64 (shaK.map b32), .rd A 1 64 c (b.map b8)] ⟨by decide, rfl⟩ ?_
    refine T_seq ?_
    refine T_seq ?_
    refine T_reg hF rfl ?_
    refine L_op rfl (op_pr (pr_move rfl rfl) rfl rfl ?_)
    refine L_nil ?_
    refine T_re [(1, (.pointer (some ⟨gk, 0, none⟩))), (3, (.pointer (some ⟨g1, 0, none⟩))), (6, (.pointer (some ⟨g2, 0, none⟩))), (7, (.pointer (some ⟨g5, 0, none⟩))), (8, (.pointer (some ⟨g6, 0, none⟩))), (18, (.int .i64 ((0 : Nat) : Int)))] (sc rfl (sc rfl (sc rfl (sc rfl (sc rfl (sc rfl sn)))))) ?_
    refine T_he [0, 1, 2, 3, 4, 5] [.blk g6 33 ((schw b 64).map b32), .blk g5 55 (s.map b32), .blk g2 55 [(b32 (0#32)), (b32 (0#32)), (b32 (0#32)), (b32 (0#32)), (b32 (0#32)), (b32 (0#32)), (b32 (0#32)), (b32 (0#32))], .blk g1 55 (s.map b32), .rd (some ⟨gk, 0, none⟩) 1 64 64 (shaK.map b32), .rd A 1 64 c (b.map b8)] ⟨by decide, rfl⟩ ?_
    refine T_block ?_
    refine T_as 1 (.blk g5 55 (s.map b32)) (.blk g5 55 ((rounds s (schw b 64) 0).map b32)) rfl (by rw [rounds_zero]) ?_
    refine T_loop (T := Nat) (fun k => k ≤ 64) (fun k => [(1, (.pointer (some ⟨gk, 0, none⟩))), (3, (.pointer (some ⟨g1, 0, none⟩))), (6, (.pointer (some ⟨g2, 0, none⟩))), (7, (.pointer (some ⟨g5, 0, none⟩))), (8, (.pointer (some ⟨g6, 0, none⟩))), (18, (.int .i64 ((k : Nat) : Int)))]) (fun k => [.blk g6 33 ((schw b 64).map b32), .blk g5 55 ((rounds s (schw b 64) k).map b32), .blk g2 55 [(b32 (0#32)), (b32 (0#32)), (b32 (0#32)), (b32 (0#32)), (b32 (0#32)), (b32 (0#32)), (b32 (0#32)), (b32 (0#32))], .blk g1 55 (s.map b32), .rd (some ⟨gk, 0, none⟩) 1 64 64 (shaK.map b32), .rd A 1 64 c (b.map b8)]) (fun k => 64 - k) 0 (by first | trivial | ((try dsimp only); first | omega | (refine ⟨?_, ?_⟩ <;> omega) | (refine ⟨?_, ?_, ?_⟩ <;> omega) | (simp; done) | (simp; omega))) (sc rfl (sc rfl (sc rfl (sc rfl (sc rfl (sc rfl sn)))))) [1, 0, 2, 3, 4, 5] ⟨by decide, rfl⟩ ?_
    rintro k hp
    have hp : k ≤ 64 := hp
    have hrk := hrl k
    refine T_re [(1, (.pointer (some ⟨gk, 0, none⟩))), (3, (.pointer (some ⟨g1, 0, none⟩))), (6, (.pointer (some ⟨g2, 0, none⟩))), (7, (.pointer (some ⟨g5, 0, none⟩))), (8, (.pointer (some ⟨g6, 0, none⟩))), (18, (.int .i64 ((k : Nat) : Int)))] (sc rfl (sc rfl (sc rfl (sc rfl (sc rfl (sc rfl sn)))))) ?_
    refine T_he [0, 1, 2, 3, 4, 5] [.blk g6 33 ((schw b 64).map b32), .blk g5 55 ((rounds s (schw b 64) k).map b32), .blk g2 55 [(b32 (0#32)), (b32 (0#32)), (b32 (0#32)), (b32 (0#32)), (b32 (0#32)), (b32 (0#32)), (b32 (0#32)), (b32 (0#32))], .blk g1 55 (s.map b32), .rd (some ⟨gk, 0, none⟩) 1 64 64 (shaK.map b32), .rd A 1 64 c (b.map b8)] ⟨by decide, rfl⟩ ?_
    refine T_seq ?_
    refine T_reg hF rfl ?_
    refine L_op rfl (op_pr (pr_cmp (bo := .lss) (nc_lt (a := k) (b := 64)) rfl rfl rfl rfl) rfl rfl ?_)
    refine L_nil ?_
    refine T_re [(1, (.pointer (some ⟨gk, 0, none⟩))), (3, (.pointer (some ⟨g1, 0, none⟩))), (6, (.pointer (some ⟨g2, 0, none⟩))), (7, (.pointer (some ⟨g5, 0, none⟩))), (8, (.pointer (some ⟨g6, 0, none⟩))), (18, (.int .i64 ((k : Nat) : Int))), (19, (.bool (decide (k < 64))))] (sc rfl (sc rfl (sc rfl (sc rfl (sc rfl (sc rfl (sc rfl sn))))))) ?_
    refine T_he [0, 1, 2, 3, 4, 5] [.blk g6 33 ((schw b 64).map b32), .blk g5 55 ((rounds s (schw b 64) k).map b32), .blk g2 55 [(b32 (0#32)), (b32 (0#32)), (b32 (0#32)), (b32 (0#32)), (b32 (0#32)), (b32 (0#32)), (b32 (0#32)), (b32 (0#32))], .blk g1 55 (s.map b32), .rd (some ⟨gk, 0, none⟩) 1 64 64 (shaK.map b32), .rd A 1 64 c (b.map b8)] ⟨by decide, rfl⟩ ?_
    refine T_seq ?_
    refine T_cond (decide (k < 64)) rfl (fun hc_27 => ?_) (fun hc_27 => ?_)
    · skip
      have hc_27 := of_decide_eq_true hc_27
      refine T_skip ?_
      refine T_seq ?_
      refine T_block ?_
      refine T_seq ?_
      refine T_reg hF rfl ?_
      refine L_op rfl (op_pr (pr_move rfl rfl) rfl rfl ?_)
      refine L_op rfl (op_pr (pr_assign rfl rfl) rfl rfl ?_)
      refine L_nil ?_
      refine T_re [(1, (.pointer (some ⟨gk, 0, none⟩))), (3, (.pointer (some ⟨g1, 0, none⟩))), (6, (.pointer (some ⟨g2, 0, none⟩))), (7, (.pointer (some ⟨g5, 0, none⟩))), (8, (.pointer (some ⟨g6, 0, none⟩))), (9, (.int .i64 ((k : Nat) : Int))), (18, (.int .i64 ((k : Nat) : Int)))] (sc rfl (sc rfl (sc rfl (sc rfl (sc rfl (sc rfl (sc rfl sn))))))) ?_
      refine T_he [0, 1, 2, 3, 4, 5] [.blk g6 33 ((schw b 64).map b32), .blk g5 55 ((rounds s (schw b 64) k).map b32), .blk g2 55 [(b32 (0#32)), (b32 (0#32)), (b32 (0#32)), (b32 (0#32)), (b32 (0#32)), (b32 (0#32)), (b32 (0#32)), (b32 (0#32))], .blk g1 55 (s.map b32), .rd (some ⟨gk, 0, none⟩) 1 64 64 (shaK.map b32), .rd A 1 64 c (b.map b8)] ⟨by decide, rfl⟩ ?_
      refine T_seq ?_
      refine T_regD [.blk g6 33 ((schw b 64).map b32), .blk g5 55 ((rounds s (schw b 64) k).map b32), .blk g2 55 [(b32 (0#32)), (b32 (0#32)), (b32 (0#32)), (b32 (0#32)), (b32 (0#32)), (b32 (0#32)), (b32 (0#32)), (b32 (0#32))], .blk g1 55 (s.map b32), .rd (some ⟨gk, 0, none⟩) 1 64 64 (shaK.map b32), .rd A 1 64 c (b.map b8)] 12 12 #[false, false, false, false, false, false, false, false, false, false, false, false] hF (by kernel_rfl) (by kernel_rfl) ?_
      refine D_pure (i := 0) [0, 1, 2, 3, 4, 5] rfl (by kernel_rfl) rfl (pr_ixa (j := 4) (m' := 4) sd (by omega) Try.underlying55 (z := 1) (by kernel_rfl) rfl rfl rfl) (.inr rfl) rfl rfl ?_
      refine D_pure (i := 3) [0, 1, 2, 3, 4, 5] rfl (by kernel_rfl) rfl (pr_ixa (j := 4) (m' := 4) sd (by omega) Try.underlying55 (z := 1) (by kernel_rfl) rfl rfl rfl) (.inr rfl) rfl rfl ?_
      refine D_pure (i := 7) [0, 1, 2, 3, 4, 5] rfl (by kernel_rfl) rfl (pr_ixa (j := 4) (m' := 4) sd (by omega) Try.underlying55 (z := 1) (by kernel_rfl) rfl rfl rfl) (.inr rfl) rfl rfl ?_
      refine D_take (i := 1) [0, 1, 2, 3, 4, 5] rfl (by kernel_rfl) rfl (ld_blk 1 rfl (get32 sd) Try.underlying32 rfl rfl rfl) rfl rfl rfl ?_
      refine D_take (i := 4) [0, 1, 2, 3, 4, 5] rfl (by kernel_rfl) rfl (ld_blk 1 rfl (get32 sd) Try.underlying32 rfl rfl rfl) rfl rfl rfl ?_
      refine D_take (i := 8) [0, 1, 2, 3, 4, 5] rfl (by kernel_rfl) rfl (ld_blk 1 rfl (get32 sd) Try.underlying32 rfl rfl rfl) rfl rfl rfl ?_
      refine D_one 2 _ rfl (by kernel_rfl) rfl (op_call0 (vs := [(b32 (ath (rounds s (schw b 64) k) 4)), (.int .i64 ((6 : Nat) : Int))]) (cap := []) (fun w hw => rotated_f (ath (rounds s (schw b 64) k) 4) 6 w (hok_nil w) sd sd) (enters_of Try.func48 (by kernel_rfl) rfl) rfl rfl rfl rfl rfl (fun t28 q29 => ?_))
      refine D_on [0, 1, 2, 3, 4, 5] rfl ?_
      refine D_one 5 _ rfl (by kernel_rfl) rfl (op_call0 (vs := [(b32 (ath (rounds s (schw b 64) k) 4)), (.int .i64 ((11 : Nat) : Int))]) (cap := []) (fun w hw => rotated_f (ath (rounds s (schw b 64) k) 4) 11 w (hok_nil w) sd sd) (enters_of Try.func48 (by kernel_rfl) rfl) rfl rfl rfl rfl rfl (fun t30 q31 => ?_))
      refine D_on [0, 1, 2, 3, 4, 5] rfl ?_
      refine D_pure (i := 6) [0, 1, 2, 3, 4, 5] rfl (by kernel_rfl) rfl (pr_xor (ib_xor32 _ _) rfl rfl rfl) (.inr rfl) rfl rfl ?_
      refine D_one 9 _ rfl (by kernel_rfl) rfl (op_call0 (vs := [(b32 (ath (rounds s (schw b 64) k) 4)), (.int .i64 ((25 : Nat) : Int))]) (cap := []) (fun w hw => rotated_f (ath (rounds s (schw b 64) k) 4) 25 w (hok_nil w) sd sd) (enters_of Try.func48 (by kernel_rfl) rfl) rfl rfl rfl rfl rfl (fun t32 q33 => ?_))
      refine D_on [0, 1, 2, 3, 4, 5] rfl ?_
      refine D_pure (i := 10) [0, 1, 2, 3, 4, 5] rfl (by kernel_rfl) rfl (pr_xor (ib_xor32 _ _) rfl rfl rfl) (.inr rfl) rfl rfl ?_
      refine D_pure (i := 11) [0, 1, 2, 3, 4, 5] rfl (by kernel_rfl) rfl (pr_assign rfl rfl) (.inr rfl) rfl rfl ?_
      refine D_done (by kernel_rfl) ?_
      refine T_re [(1, (.pointer (some ⟨gk, 0, none⟩))), (3, (.pointer (some ⟨g1, 0, none⟩))), (6, (.pointer (some ⟨g2, 0, none⟩))), (7, (.pointer (some ⟨g5, 0, none⟩))), (8, (.pointer (some ⟨g6, 0, none⟩))), (9, (.int .i64 ((k : Nat) : Int))), (10, (b32 (((ror32 (ath (rounds s (schw b 64) k) 4) 6) ^^^ (ror32 (ath (rounds s (schw b 64) k) 4) 11)) ^^^ (ror32 (ath (rounds s (schw b 64) k) 4) 25)))), (18, (.int .i64 ((k : Nat) : Int)))] (sc rfl (sc rfl (sc rfl (sc rfl (sc rfl (sc rfl (sc rfl (sc rfl sn)))))))) ?_
      refine T_he [0, 1, 2, 3, 4, 5] [.blk g6 33 ((schw b 64).map b32), .blk g5 55 ((rounds s (schw b 64) k).map b32), .blk g2 55 [(b32 (0#32)), (b32 (0#32)), (b32 (0#32)), (b32 (0#32)), (b32 (0#32)), (b32 (0#32)), (b32 (0#32)), (b32 (0#32))], .blk g1 55 (s.map b32), .rd (some ⟨gk, 0, none⟩) 1 64 64 (shaK.map b32), .rd A 1 64 c (b.map b8)] ⟨by decide, rfl⟩ ?_
      refine T_seq ?_
      refine T_regD [.blk g6 33 ((schw b 64).map b32), .blk g5 55 ((rounds s (schw b 64) k).map b32), .blk g2 55 [(b32 (0#32)), (b32 (0#32)), (b32 (0#32)), (b32 (0#32)), (b32 (0#32)), (b32 (0#32)), (b32 (0#32)), (b32 (0#32))], .blk g1 55 (s.map b32), .rd (some ⟨gk, 0, none⟩) 1 64 64 (shaK.map b32), .rd A 1 64 c (b.map b8)] 12 12 #[false, false, false, false, false, false, false, false, false, false, false, false] hF (by kernel_rfl) (by kernel_rfl) ?_
      refine D_pure (i := 0) [0, 1, 2, 3, 4, 5] rfl (by kernel_rfl) rfl (pr_ixa (j := 0) (m' := 0) sd (by omega) Try.underlying55 (z := 1) (by kernel_rfl) rfl rfl rfl) (.inr rfl) rfl rfl ?_
      refine D_pure (i := 3) [0, 1, 2, 3, 4, 5] rfl (by kernel_rfl) rfl (pr_ixa (j := 0) (m' := 0) sd (by omega) Try.underlying55 (z := 1) (by kernel_rfl) rfl rfl rfl) (.inr rfl) rfl rfl ?_
      refine D_pure (i := 7) [0, 1, 2, 3, 4, 5] rfl (by kernel_rfl) rfl (pr_ixa (j := 0) (m' := 0) sd (by omega) Try.underlying55 (z := 1) (by kernel_rfl) rfl rfl rfl) (.inr rfl) rfl rfl ?_
      refine D_take (i := 1) [0, 1, 2, 3, 4, 5] rfl (by kernel_rfl) rfl (ld_blk 1 rfl (get32 sd) Try.underlying32 rfl rfl rfl) rfl rfl rfl ?_
      refine D_take (i := 4) [0, 1, 2, 3, 4, 5] rfl (by kernel_rfl) rfl (ld_blk 1 rfl (get32 sd) Try.underlying32 rfl rfl rfl) rfl rfl rfl ?_
      refine D_take (i := 8) [0, 1, 2, 3, 4, 5] rfl (by kernel_rfl) rfl (ld_blk 1 rfl (get32 sd) Try.underlying32 rfl rfl rfl) rfl rfl rfl ?_
      refine D_one 2 _ rfl (by kernel_rfl) rfl (op_call0 (vs := [(b32 (ath (rounds s (schw b 64) k) 0)), (.int .i64 ((2 : Nat) : Int))]) (cap := []) (fun w hw => rotated_f (ath (rounds s (schw b 64) k) 0) 2 w (hok_nil w) sd sd) (enters_of Try.func48 (by kernel_rfl) rfl) rfl rfl rfl rfl rfl (fun t34 q35 => ?_))
      refine D_on [0, 1, 2, 3, 4, 5] rfl ?_
      refine D_one 5 _ rfl (by kernel_rfl) rfl (op_call0 (vs := [(b32 (ath (rounds s (schw b 64) k) 0)), (.int .i64 ((13 : Nat) : Int))]) (cap := []) (fun w hw => rotated_f (ath (rounds s (schw b 64) k) 0) 13 w (hok_nil w) sd sd) (enters_of Try.func48 (by kernel_rfl) rfl) rfl rfl rfl rfl rfl (fun t36 q37 => ?_))
      refine D_on [0, 1, 2, 3, 4, 5] rfl ?_
      refine D_pure (i := 6) [0, 1, 2, 3, 4, 5] rfl (by kernel_rfl) rfl (pr_xor (ib_xor32 _ _) rfl rfl rfl) (.inr rfl) rfl rfl ?_
      refine D_one 9 _ rfl (by kernel_rfl) rfl (op_call0 (vs := [(b32 (ath (rounds s (schw b 64) k) 0)), (.int .i64 ((22 : Nat) : Int))]) (cap := []) (fun w hw => rotated_f (ath (rounds s (schw b 64) k) 0) 22 w (hok_nil w) sd sd) (enters_of Try.func48 (by kernel_rfl) rfl) rfl rfl rfl rfl rfl (fun t38 q39 => ?_))
      refine D_on [0, 1, 2, 3, 4, 5] rfl ?_
      refine D_pure (i := 10) [0, 1, 2, 3, 4, 5] rfl (by kernel_rfl) rfl (pr_xor (ib_xor32 _ _) rfl rfl rfl) (.inr rfl) rfl rfl ?_
      refine D_pure (i := 11) [0, 1, 2, 3, 4, 5] rfl (by kernel_rfl) rfl (pr_assign rfl rfl) (.inr rfl) rfl rfl ?_
      refine D_done (by kernel_rfl) ?_
      refine T_re [(1, (.pointer (some ⟨gk, 0, none⟩))), (3, (.pointer (some ⟨g1, 0, none⟩))), (6, (.pointer (some ⟨g2, 0, none⟩))), (7, (.pointer (some ⟨g5, 0, none⟩))), (8, (.pointer (some ⟨g6, 0, none⟩))), (9, (.int .i64 ((k : Nat) : Int))), (10, (b32 (((ror32 (ath (rounds s (schw b 64) k) 4) 6) ^^^ (ror32 (ath (rounds s (schw b 64) k) 4) 11)) ^^^ (ror32 (ath (rounds s (schw b 64) k) 4) 25)))), (11, (b32 (((ror32 (ath (rounds s (schw b 64) k) 0) 2) ^^^ (ror32 (ath (rounds s (schw b 64) k) 0) 13)) ^^^ (ror32 (ath (rounds s (schw b 64) k) 0) 22)))), (18, (.int .i64 ((k : Nat) : Int)))] (sc rfl (sc rfl (sc rfl (sc rfl (sc rfl (sc rfl (sc rfl (sc rfl (sc rfl sn))))))))) ?_
      refine T_he [0, 1, 2, 3, 4, 5] [.blk g6 33 ((schw b 64).map b32), .blk g5 55 ((rounds s (schw b 64) k).map b32), .blk g2 55 [(b32 (0#32)), (b32 (0#32)), (b32 (0#32)), (b32 (0#32)), (b32 (0#32)), (b32 (0#32)), (b32 (0#32)), (b32 (0#32))], .blk g1 55 (s.map b32), .rd (some ⟨gk, 0, none⟩) 1 64 64 (shaK.map b32), .rd A 1 64 c (b.map b8)] ⟨by decide, rfl⟩ ?_
      refine T_seq ?_
      refine T_regD [.blk g6 33 ((schw b 64).map b32), .blk g5 55 ((rounds s (schw b 64) k).map b32), .blk g2 55 [(b32 (0#32)), (b32 (0#32)), (b32 (0#32)), (b32 (0#32)), (b32 (0#32)), (b32 (0#32)), (b32 (0#32)), (b32 (0#32))], .blk g1 55 (s.map b32), .rd (some ⟨gk, 0, none⟩) 1 64 64 (shaK.map b32), .rd A 1 64 c (b.map b8)] 28 28 #[false, false, false, false, false, false, false, false, false, false, false, false, false, false, false, false, false, false, false, false, false, false, false, false, false, false, false, false] hF (by kernel_rfl) (by kernel_rfl) ?_
      refine D_pure (i := 0) [0, 1, 2, 3, 4, 5] rfl (by kernel_rfl) rfl (pr_ixa (j := 7) (m' := 7) sd (by omega) Try.underlying55 (z := 1) (by kernel_rfl) rfl rfl rfl) (.inr rfl) rfl rfl ?_
      refine D_pure (i := 2) [0, 1, 2, 3, 4, 5] rfl (by kernel_rfl) rfl (pr_move rfl rfl) (.inr rfl) rfl rfl ?_
      refine D_pure (i := 4) [0, 1, 2, 3, 4, 5] rfl (by kernel_rfl) rfl (pr_ixa (j := 4) (m' := 4) sd (by omega) Try.underlying55 (z := 1) (by kernel_rfl) rfl rfl rfl) (.inr rfl) rfl rfl ?_
      refine D_pure (i := 6) [0, 1, 2, 3, 4, 5] rfl (by kernel_rfl) rfl (pr_ixa (j := 5) (m' := 5) sd (by omega) Try.underlying55 (z := 1) (by kernel_rfl) rfl rfl rfl) (.inr rfl) rfl rfl ?_
      refine D_pure (i := 9) [0, 1, 2, 3, 4, 5] rfl (by kernel_rfl) rfl (pr_ixa (j := 4) (m' := 4) sd (by omega) Try.underlying55 (z := 1) (by kernel_rfl) rfl rfl rfl) (.inr rfl) rfl rfl ?_
      refine D_pure (i := 12) [0, 1, 2, 3, 4, 5] rfl (by kernel_rfl) rfl (pr_ixa (j := 6) (m' := 6) sd (by omega) Try.underlying55 (z := 1) (by kernel_rfl) rfl rfl rfl) (.inr rfl) rfl rfl ?_
      refine D_pure (i := 17) [0, 1, 2, 3, 4, 5] rfl (by kernel_rfl) rfl (pr_move rfl rfl) (.inr rfl) rfl rfl ?_
      refine D_pure (i := 18) [0, 1, 2, 3, 4, 5] rfl (by kernel_rfl) rfl (pr_move rfl rfl) (.inr rfl) rfl rfl ?_
      refine D_pure (i := 19) [0, 1, 2, 3, 4, 5] rfl (by kernel_rfl) rfl (pr_nilck rfl rfl) (.inr rfl) rfl rfl ?_
      refine D_pure (i := 20) [0, 1, 2, 3, 4, 5] rfl (by kernel_rfl) rfl (pr_ixa (j := k) (m' := k) sd (by omega) Try.underlying33 (z := 1) (by kernel_rfl) rfl rfl rfl) (.inr rfl) rfl rfl ?_
      refine D_pure (i := 23) [0, 1, 2, 3, 4, 5] rfl (by kernel_rfl) rfl (pr_move rfl rfl) (.inr rfl) rfl rfl ?_
      refine D_pure (i := 24) [0, 1, 2, 3, 4, 5] rfl (by kernel_rfl) rfl (pr_ixa (j := k) (m' := k) sd (by omega) Try.underlying33 (z := 1) (by kernel_rfl) rfl rfl rfl) (.inr rfl) rfl rfl ?_
      refine D_take (i := 1) [0, 1, 2, 3, 4, 5] rfl (by kernel_rfl) rfl (ld_blk 1 rfl (get32 sd) Try.underlying32 rfl rfl rfl) rfl rfl rfl ?_
      refine D_pure (i := 3) [0, 1, 2, 3, 4, 5] rfl (by kernel_rfl) rfl (pr_add (add32 _ _) rfl rfl rfl) (.inr rfl) rfl rfl ?_
      refine D_take (i := 5) [0, 1, 2, 3, 4, 5] rfl (by kernel_rfl) rfl (ld_blk 1 rfl (get32 sd) Try.underlying32 rfl rfl rfl) rfl rfl rfl ?_
      refine D_take (i := 7) [0, 1, 2, 3, 4, 5] rfl (by kernel_rfl) rfl (ld_blk 1 rfl (get32 sd) Try.underlying32 rfl rfl rfl) rfl rfl rfl ?_
      refine D_pure (i := 8) [0, 1, 2, 3, 4, 5] rfl (by kernel_rfl) rfl (pr_and (ib_and32 _ _) rfl rfl rfl) (.inr rfl) rfl rfl ?_
      refine D_take (i := 10) [0, 1, 2, 3, 4, 5] rfl (by kernel_rfl) rfl (ld_blk 1 rfl (get32 sd) Try.underlying32 rfl rfl rfl) rfl rfl rfl ?_
      refine D_pure (i := 11) [0, 1, 2, 3, 4, 5] rfl (by kernel_rfl) rfl (pr_un (not32 _) rfl rfl) (.inr rfl) rfl rfl ?_
      refine D_take (i := 13) [0, 1, 2, 3, 4, 5] rfl (by kernel_rfl) rfl (ld_blk 1 rfl (get32 sd) Try.underlying32 rfl rfl rfl) rfl rfl rfl ?_
      refine D_pure (i := 14) [0, 1, 2, 3, 4, 5] rfl (by kernel_rfl) rfl (pr_and (ib_and32 _ _) rfl rfl rfl) (.inr rfl) rfl rfl ?_
      refine D_pure (i := 15) [0, 1, 2, 3, 4, 5] rfl (by kernel_rfl) rfl (pr_xor (ib_xor32 _ _) rfl rfl rfl) (.inr rfl) rfl rfl ?_
      refine D_pure (i := 16) [0, 1, 2, 3, 4, 5] rfl (by kernel_rfl) rfl (pr_add (add32 _ _) rfl rfl rfl) (.inr rfl) rfl rfl ?_
      refine D_take (i := 21) [0, 1, 2, 3, 4, 5] rfl (by kernel_rfl) rfl (ld_rdb (src_rd 4 rfl) (get32 sd) Try.underlying32 rfl rfl rfl) rfl rfl rfl ?_
      refine D_pure (i := 22) [0, 1, 2, 3, 4, 5] rfl (by kernel_rfl) rfl (pr_add (add32 _ _) rfl rfl rfl) (.inr rfl) rfl rfl ?_
      refine D_take (i := 25) [0, 1, 2, 3, 4, 5] rfl (by kernel_rfl) rfl (ld_blk 0 rfl (get32 sd) Try.underlying32 rfl rfl rfl) rfl rfl rfl ?_
      refine D_pure (i := 26) [0, 1, 2, 3, 4, 5] rfl (by kernel_rfl) rfl (pr_add (add32 _ _) rfl rfl rfl) (.inr rfl) rfl rfl ?_
      refine D_pure (i := 27) [0, 1, 2, 3, 4, 5] rfl (by kernel_rfl) rfl (pr_assign rfl rfl) (.inr rfl) rfl rfl ?_
      refine D_done (by kernel_rfl) ?_
      refine T_re [(1, (.pointer (some ⟨gk, 0, none⟩))), (3, (.pointer (some ⟨g1, 0, none⟩))), (6, (.pointer (some ⟨g2, 0, none⟩))), (7, (.pointer (some ⟨g5, 0, none⟩))), (8, (.pointer (some ⟨g6, 0, none⟩))), (11, (b32 (((ror32 (ath (rounds s (schw b 64) k) 0) 2) ^^^ (ror32 (ath (rounds s (schw b 64) k) 0) 13)) ^^^ (ror32 (ath (rounds s (schw b 64) k) 0) 22)))), (12, (b32 (((((ath (rounds s (schw b 64) k) 7) + (((ror32 (ath (rounds s (schw b 64) k) 4) 6) ^^^ (ror32 (ath (rounds s (schw b 64) k) 4) 11)) ^^^ (ror32 (ath (rounds s (schw b 64) k) 4) 25))) + (((ath (rounds s (schw b 64) k) 4) &&& (ath (rounds s (schw b 64) k) 5)) ^^^ ((~~~(ath (rounds s (schw b 64) k) 4)) &&& (ath (rounds s (schw b 64) k) 6)))) + (ath shaK k)) + (ath (schw b 64) k)))), (18, (.int .i64 ((k : Nat) : Int)))] (sc rfl (sc rfl (sc rfl (sc rfl (sc rfl (sc rfl (sc rfl (sc rfl sn)))))))) ?_
      refine T_he [0, 1, 2, 3, 4, 5] [.blk g6 33 ((schw b 64).map b32), .blk g5 55 ((rounds s (schw b 64) k).map b32), .blk g2 55 [(b32 (0#32)), (b32 (0#32)), (b32 (0#32)), (b32 (0#32)), (b32 (0#32)), (b32 (0#32)), (b32 (0#32)), (b32 (0#32))], .blk g1 55 (s.map b32), .rd (some ⟨gk, 0, none⟩) 1 64 64 (shaK.map b32), .rd A 1 64 c (b.map b8)] ⟨by decide, rfl⟩ ?_
      refine T_seq ?_
      refine T_reg hF rfl ?_
      refine L_op rfl (op_pr (pr_move rfl rfl) rfl rfl ?_)
      refine L_op rfl (op_pr (pr_ixa (j := 0) (m' := 0) sd (by omega) Try.underlying55 (z := 1) (by kernel_rfl) rfl rfl rfl) rfl rfl ?_)
      refine L_op rfl (op_ld (ld_blk 1 rfl (get32 sd) Try.underlying32 rfl rfl rfl) rfl rfl ?_)
      refine L_op rfl (op_pr (pr_ixa (j := 1) (m' := 1) sd (by omega) Try.underlying55 (z := 1) (by kernel_rfl) rfl rfl rfl) rfl rfl ?_)
      refine L_op rfl (op_ld (ld_blk 1 rfl (get32 sd) Try.underlying32 rfl rfl rfl) rfl rfl ?_)
      refine L_op rfl (op_pr (pr_and (ib_and32 _ _) rfl rfl rfl) rfl rfl ?_)
      refine L_op rfl (op_pr (pr_ixa (j := 0) (m' := 0) sd (by omega) Try.underlying55 (z := 1) (by kernel_rfl) rfl rfl rfl) rfl rfl ?_)
      refine L_op rfl (op_ld (ld_blk 1 rfl (get32 sd) Try.underlying32 rfl rfl rfl) rfl rfl ?_)
      refine L_op rfl (op_pr (pr_ixa (j := 2) (m' := 2) sd (by omega) Try.underlying55 (z := 1) (by kernel_rfl) rfl rfl rfl) rfl rfl ?_)
      refine L_op rfl (op_ld (ld_blk 1 rfl (get32 sd) Try.underlying32 rfl rfl rfl) rfl rfl ?_)
      refine L_op rfl (op_pr (pr_and (ib_and32 _ _) rfl rfl rfl) rfl rfl ?_)
      refine L_op rfl (op_pr (pr_xor (ib_xor32 _ _) rfl rfl rfl) rfl rfl ?_)
      refine L_op rfl (op_pr (pr_ixa (j := 1) (m' := 1) sd (by omega) Try.underlying55 (z := 1) (by kernel_rfl) rfl rfl rfl) rfl rfl ?_)
      refine L_op rfl (op_ld (ld_blk 1 rfl (get32 sd) Try.underlying32 rfl rfl rfl) rfl rfl ?_)
      refine L_op rfl (op_pr (pr_ixa (j := 2) (m' := 2) sd (by omega) Try.underlying55 (z := 1) (by kernel_rfl) rfl rfl rfl) rfl rfl ?_)
      refine L_op rfl (op_ld (ld_blk 1 rfl (get32 sd) Try.underlying32 rfl rfl rfl) rfl rfl ?_)
      refine L_op rfl (op_pr (pr_and (ib_and32 _ _) rfl rfl rfl) rfl rfl ?_)
      refine L_op rfl (op_pr (pr_xor (ib_xor32 _ _) rfl rfl rfl) rfl rfl ?_)
      refine L_op rfl (op_pr (pr_add (add32 _ _) rfl rfl rfl) rfl rfl ?_)
      refine L_op rfl (op_pr (pr_assign rfl rfl) rfl rfl ?_)
      refine L_nil ?_
      refine T_re [(1, (.pointer (some ⟨gk, 0, none⟩))), (3, (.pointer (some ⟨g1, 0, none⟩))), (6, (.pointer (some ⟨g2, 0, none⟩))), (7, (.pointer (some ⟨g5, 0, none⟩))), (8, (.pointer (some ⟨g6, 0, none⟩))), (12, (b32 (((((ath (rounds s (schw b 64) k) 7) + (((ror32 (ath (rounds s (schw b 64) k) 4) 6) ^^^ (ror32 (ath (rounds s (schw b 64) k) 4) 11)) ^^^ (ror32 (ath (rounds s (schw b 64) k) 4) 25))) + (((ath (rounds s (schw b 64) k) 4) &&& (ath (rounds s (schw b 64) k) 5)) ^^^ ((~~~(ath (rounds s (schw b 64) k) 4)) &&& (ath (rounds s (schw b 64) k) 6)))) + (ath shaK k)) + (ath (schw b 64) k)))), (13, (b32 ((((ror32 (ath (rounds s (schw b 64) k) 0) 2) ^^^ (ror32 (ath (rounds s (schw b 64) k) 0) 13)) ^^^ (ror32 (ath (rounds s (schw b 64) k) 0) 22)) + ((((ath (rounds s (schw b 64) k) 0) &&& (ath (rounds s (schw b 64) k) 1)) ^^^ ((ath (rounds s (schw b 64) k) 0) &&& (ath (rounds s (schw b 64) k) 2))) ^^^ ((ath (rounds s (schw b 64) k) 1) &&& (ath (rounds s (schw b 64) k) 2)))))), (18, (.int .i64 ((k : Nat) : Int)))] (sc rfl (sc rfl (sc rfl (sc rfl (sc rfl (sc rfl (sc rfl (sc rfl sn)))))))) ?_
      refine T_he [0, 1, 2, 3, 4, 5] [.blk g6 33 ((schw b 64).map b32), .blk g5 55 ((rounds s (schw b 64) k).map b32), .blk g2 55 [(b32 (0#32)), (b32 (0#32)), (b32 (0#32)), (b32 (0#32)), (b32 (0#32)), (b32 (0#32)), (b32 (0#32)), (b32 (0#32))], .blk g1 55 (s.map b32), .rd (some ⟨gk, 0, none⟩) 1 64 64 (shaK.map b32), .rd A 1 64 c (b.map b8)] ⟨by decide, rfl⟩ ?_
      refine T_reg hF rfl ?_
      refine L_op rfl (op_pr (pr_move rfl rfl) rfl rfl ?_)
      refine L_op rfl (op_pr (pr_move rfl rfl) rfl rfl ?_)
      refine L_op rfl (op_pr (pr_add (add32 _ _) rfl rfl rfl) rfl rfl ?_)
      refine L_op rfl (op_pr (pr_ixa (j := 0) (m' := 0) sd (by omega) Try.underlying55 (z := 1) (by kernel_rfl) rfl rfl rfl) rfl rfl ?_)
      refine L_op rfl (op_ld (ld_blk 1 rfl (get32 sd) Try.underlying32 rfl rfl rfl) rfl rfl ?_)
      refine L_op rfl (op_pr (pr_ixa (j := 1) (m' := 1) sd (by omega) Try.underlying55 (z := 1) (by kernel_rfl) rfl rfl rfl) rfl rfl ?_)
      refine L_op rfl (op_ld (ld_blk 1 rfl (get32 sd) Try.underlying32 rfl rfl rfl) rfl rfl ?_)
      refine L_op rfl (op_pr (pr_ixa (j := 2) (m' := 2) sd (by omega) Try.underlying55 (z := 1) (by kernel_rfl) rfl rfl rfl) rfl rfl ?_)
      refine L_op rfl (op_ld (ld_blk 1 rfl (get32 sd) Try.underlying32 rfl rfl rfl) rfl rfl ?_)
      refine L_op rfl (op_pr (pr_ixa (j := 3) (m' := 3) sd (by omega) Try.underlying55 (z := 1) (by kernel_rfl) rfl rfl rfl) rfl rfl ?_)
      refine L_op rfl (op_ld (ld_blk 1 rfl (get32 sd) Try.underlying32 rfl rfl rfl) rfl rfl ?_)
      refine L_op rfl (op_pr (pr_move rfl rfl) rfl rfl ?_)
      refine L_op rfl (op_pr (pr_add (add32 _ _) rfl rfl rfl) rfl rfl ?_)
      refine L_op rfl (op_pr (pr_ixa (j := 4) (m' := 4) sd (by omega) Try.underlying55 (z := 1) (by kernel_rfl) rfl rfl rfl) rfl rfl ?_)
      refine L_op rfl (op_ld (ld_blk 1 rfl (get32 sd) Try.underlying32 rfl rfl rfl) rfl rfl ?_)
      refine L_op rfl (op_pr (pr_ixa (j := 5) (m' := 5) sd (by omega) Try.underlying55 (z := 1) (by kernel_rfl) rfl rfl rfl) rfl rfl ?_)
      refine L_op rfl (op_ld (ld_blk 1 rfl (get32 sd) Try.underlying32 rfl rfl rfl) rfl rfl ?_)
      refine L_op rfl (op_pr (pr_ixa (j := 6) (m' := 6) sd (by omega) Try.underlying55 (z := 1) (by kernel_rfl) rfl rfl rfl) rfl rfl ?_)
      refine L_op rfl (op_ld (ld_blk 1 rfl (get32 sd) Try.underlying32 rfl rfl rfl) rfl rfl ?_)
      refine L_op rfl (op_pr (pr_build (qs := [(0, (b32 ((((((ath (rounds s (schw b 64) k) 7) + (((ror32 (ath (rounds s (schw b 64) k) 4) 6) ^^^ (ror32 (ath (rounds s (schw b 64) k) 4) 11)) ^^^ (ror32 (ath (rounds s (schw b 64) k) 4) 25))) + (((ath (rounds s (schw b 64) k) 4) &&& (ath (rounds s (schw b 64) k) 5)) ^^^ ((~~~(ath (rounds s (schw b 64) k) 4)) &&& (ath (rounds s (schw b 64) k) 6)))) + (ath shaK k)) + (ath (schw b 64) k)) + ((((ror32 (ath (rounds s (schw b 64) k) 0) 2) ^^^ (ror32 (ath (rounds s (schw b 64) k) 0) 13)) ^^^ (ror32 (ath (rounds s (schw b 64) k) 0) 22)) + ((((ath (rounds s (schw b 64) k) 0) &&& (ath (rounds s (schw b 64) k) 1)) ^^^ ((ath (rounds s (schw b 64) k) 0) &&& (ath (rounds s (schw b 64) k) 2))) ^^^ ((ath (rounds s (schw b 64) k) 1) &&& (ath (rounds s (schw b 64) k) 2))))))), (1, (b32 (ath (rounds s (schw b 64) k) 0))), (2, (b32 (ath (rounds s (schw b 64) k) 1))), (3, (b32 (ath (rounds s (schw b 64) k) 2))), (4, (b32 ((ath (rounds s (schw b 64) k) 3) + (((((ath (rounds s (schw b 64) k) 7) + (((ror32 (ath (rounds s (schw b 64) k) 4) 6) ^^^ (ror32 (ath (rounds s (schw b 64) k) 4) 11)) ^^^ (ror32 (ath (rounds s (schw b 64) k) 4) 25))) + (((ath (rounds s (schw b 64) k) 4) &&& (ath (rounds s (schw b 64) k) 5)) ^^^ ((~~~(ath (rounds s (schw b 64) k) 4)) &&& (ath (rounds s (schw b 64) k) 6)))) + (ath shaK k)) + (ath (schw b 64) k))))), (5, (b32 (ath (rounds s (schw b 64) k) 4))), (6, (b32 (ath (rounds s (schw b 64) k) 5))), (7, (b32 (ath (rounds s (schw b 64) k) 6)))]) (v := .agg [(b32 ((((((ath (rounds s (schw b 64) k) 7) + (((ror32 (ath (rounds s (schw b 64) k) 4) 6) ^^^ (ror32 (ath (rounds s (schw b 64) k) 4) 11)) ^^^ (ror32 (ath (rounds s (schw b 64) k) 4) 25))) + (((ath (rounds s (schw b 64) k) 4) &&& (ath (rounds s (schw b 64) k) 5)) ^^^ ((~~~(ath (rounds s (schw b 64) k) 4)) &&& (ath (rounds s (schw b 64) k) 6)))) + (ath shaK k)) + (ath (schw b 64) k)) + ((((ror32 (ath (rounds s (schw b 64) k) 0) 2) ^^^ (ror32 (ath (rounds s (schw b 64) k) 0) 13)) ^^^ (ror32 (ath (rounds s (schw b 64) k) 0) 22)) + ((((ath (rounds s (schw b 64) k) 0) &&& (ath (rounds s (schw b 64) k) 1)) ^^^ ((ath (rounds s (schw b 64) k) 0) &&& (ath (rounds s (schw b 64) k) 2))) ^^^ ((ath (rounds s (schw b 64) k) 1) &&& (ath (rounds s (schw b 64) k) 2)))))), (b32 (ath (rounds s (schw b 64) k) 0)), (b32 (ath (rounds s (schw b 64) k) 1)), (b32 (ath (rounds s (schw b 64) k) 2)), (b32 ((ath (rounds s (schw b 64) k) 3) + (((((ath (rounds s (schw b 64) k) 7) + (((ror32 (ath (rounds s (schw b 64) k) 4) 6) ^^^ (ror32 (ath (rounds s (schw b 64) k) 4) 11)) ^^^ (ror32 (ath (rounds s (schw b 64) k) 4) 25))) + (((ath (rounds s (schw b 64) k) 4) &&& (ath (rounds s (schw b 64) k) 5)) ^^^ ((~~~(ath (rounds s (schw b 64) k) 4)) &&& (ath (rounds s (schw b 64) k) 6)))) + (ath shaK k)) + (ath (schw b 64) k)))), (b32 (ath (rounds s (schw b 64) k) 4)), (b32 (ath (rounds s (schw b 64) k) 5)), (b32 (ath (rounds s (schw b 64) k) 6))].toArray) (fun _ => by kernel_rfl) rfl rfl) rfl rfl ?_)
      refine L_op rfl (op_store (vs := [(b32 ((((((ath (rounds s (schw b 64) k) 7) + (((ror32 (ath (rounds s (schw b 64) k) 4) 6) ^^^ (ror32 (ath (rounds s (schw b 64) k) 4) 11)) ^^^ (ror32 (ath (rounds s (schw b 64) k) 4) 25))) + (((ath (rounds s (schw b 64) k) 4) &&& (ath (rounds s (schw b 64) k) 5)) ^^^ ((~~~(ath (rounds s (schw b 64) k) 4)) &&& (ath (rounds s (schw b 64) k) 6)))) + (ath shaK k)) + (ath (schw b 64) k)) + ((((ror32 (ath (rounds s (schw b 64) k) 0) 2) ^^^ (ror32 (ath (rounds s (schw b 64) k) 0) 13)) ^^^ (ror32 (ath (rounds s (schw b 64) k) 0) 22)) + ((((ath (rounds s (schw b 64) k) 0) &&& (ath (rounds s (schw b 64) k) 1)) ^^^ ((ath (rounds s (schw b 64) k) 0) &&& (ath (rounds s (schw b 64) k) 2))) ^^^ ((ath (rounds s (schw b 64) k) 1) &&& (ath (rounds s (schw b 64) k) 2)))))), (b32 (ath (rounds s (schw b 64) k) 0)), (b32 (ath (rounds s (schw b 64) k) 1)), (b32 (ath (rounds s (schw b 64) k) 2)), (b32 ((ath (rounds s (schw b 64) k) 3) + (((((ath (rounds s (schw b 64) k) 7) + (((ror32 (ath (rounds s (schw b 64) k) 4) 6) ^^^ (ror32 (ath (rounds s (schw b 64) k) 4) 11)) ^^^ (ror32 (ath (rounds s (schw b 64) k) 4) 25))) + (((ath (rounds s (schw b 64) k) 4) &&& (ath (rounds s (schw b 64) k) 5)) ^^^ ((~~~(ath (rounds s (schw b 64) k) 4)) &&& (ath (rounds s (schw b 64) k) 6)))) + (ath shaK k)) + (ath (schw b 64) k)))), (b32 (ath (rounds s (schw b 64) k) 4)), (b32 (ath (rounds s (schw b 64) k) 5)), (b32 (ath (rounds s (schw b 64) k) 6))]) (cs' := [(b32 ((((((ath (rounds s (schw b 64) k) 7) + (((ror32 (ath (rounds s (schw b 64) k) 4) 6) ^^^ (ror32 (ath (rounds s (schw b 64) k) 4) 11)) ^^^ (ror32 (ath (rounds s (schw b 64) k) 4) 25))) + (((ath (rounds s (schw b 64) k) 4) &&& (ath (rounds s (schw b 64) k) 5)) ^^^ ((~~~(ath (rounds s (schw b 64) k) 4)) &&& (ath (rounds s (schw b 64) k) 6)))) + (ath shaK k)) + (ath (schw b 64) k)) + ((((ror32 (ath (rounds s (schw b 64) k) 0) 2) ^^^ (ror32 (ath (rounds s (schw b 64) k) 0) 13)) ^^^ (ror32 (ath (rounds s (schw b 64) k) 0) 22)) + ((((ath (rounds s (schw b 64) k) 0) &&& (ath (rounds s (schw b 64) k) 1)) ^^^ ((ath (rounds s (schw b 64) k) 0) &&& (ath (rounds s (schw b 64) k) 2))) ^^^ ((ath (rounds s (schw b 64) k) 1) &&& (ath (rounds s (schw b 64) k) 2)))))), (b32 (ath (rounds s (schw b 64) k) 0)), (b32 (ath (rounds s (schw b 64) k) 1)), (b32 (ath (rounds s (schw b 64) k) 2)), (b32 ((ath (rounds s (schw b 64) k) 3) + (((((ath (rounds s (schw b 64) k) 7) + (((ror32 (ath (rounds s (schw b 64) k) 4) 6) ^^^ (ror32 (ath (rounds s (schw b 64) k) 4) 11)) ^^^ (ror32 (ath (rounds s (schw b 64) k) 4) 25))) + (((ath (rounds s (schw b 64) k) 4) &&& (ath (rounds s (schw b 64) k) 5)) ^^^ ((~~~(ath (rounds s (schw b 64) k) 4)) &&& (ath (rounds s (schw b 64) k) 6)))) + (ath shaK k)) + (ath (schw b 64) k)))), (b32 (ath (rounds s (schw b 64) k) 4)), (b32 (ath (rounds s (schw b 64) k) 5)), (b32 (ath (rounds s (schw b 64) k) 6))]) 1 rfl rfl (by kernel_rfl) (by simp [Value.oneCell']) (by have h1 : (((rounds s (schw b 64) k).map b32)).length = 8 := sd; have h2 : ([(b32 ((((((ath (rounds s (schw b 64) k) 7) + (((ror32 (ath (rounds s (schw b 64) k) 4) 6) ^^^ (ror32 (ath (rounds s (schw b 64) k) 4) 11)) ^^^ (ror32 (ath (rounds s (schw b 64) k) 4) 25))) + (((ath (rounds s (schw b 64) k) 4) &&& (ath (rounds s (schw b 64) k) 5)) ^^^ ((~~~(ath (rounds s (schw b 64) k) 4)) &&& (ath (rounds s (schw b 64) k) 6)))) + (ath shaK k)) + (ath (schw b 64) k)) + ((((ror32 (ath (rounds s (schw b 64) k) 0) 2) ^^^ (ror32 (ath (rounds s (schw b 64) k) 0) 13)) ^^^ (ror32 (ath (rounds s (schw b 64) k) 0) 22)) + ((((ath (rounds s (schw b 64) k) 0) &&& (ath (rounds s (schw b 64) k) 1)) ^^^ ((ath (rounds s (schw b 64) k) 0) &&& (ath (rounds s (schw b 64) k) 2))) ^^^ ((ath (rounds s (schw b 64) k) 1) &&& (ath (rounds s (schw b 64) k) 2)))))), (b32 (ath (rounds s (schw b 64) k) 0)), (b32 (ath (rounds s (schw b 64) k) 1)), (b32 (ath (rounds s (schw b 64) k) 2)), (b32 ((ath (rounds s (schw b 64) k) 3) + (((((ath (rounds s (schw b 64) k) 7) + (((ror32 (ath (rounds s (schw b 64) k) 4) 6) ^^^ (ror32 (ath (rounds s (schw b 64) k) 4) 11)) ^^^ (ror32 (ath (rounds s (schw b 64) k) 4) 25))) + (((ath (rounds s (schw b 64) k) 4) &&& (ath (rounds s (schw b 64) k) 5)) ^^^ ((~~~(ath (rounds s (schw b 64) k) 4)) &&& (ath (rounds s (schw b 64) k) 6)))) + (ath shaK k)) + (ath (schw b 64) k)))), (b32 (ath (rounds s (schw b 64) k) 4)), (b32 (ath (rounds s (schw b 64) k) 5)), (b32 (ath (rounds s (schw b 64) k) 6))]).length = 8 := (by kernel_rfl); omega) (splice_all (Eq.trans (b := 8) sd (Eq.symm (by kernel_rfl)))) rfl rfl rfl rfl ?_)
      refine L_nil ?_
      refine T_re [(1, (.pointer (some ⟨gk, 0, none⟩))), (3, (.pointer (some ⟨g1, 0, none⟩))), (6, (.pointer (some ⟨g2, 0, none⟩))), (7, (.pointer (some ⟨g5, 0, none⟩))), (8, (.pointer (some ⟨g6, 0, none⟩))), (18, (.int .i64 ((k : Nat) : Int)))] (sc rfl (sc rfl (sc rfl (sc rfl (sc rfl (sc rfl sn)))))) ?_
      refine T_he [0, 1, 2, 3, 4, 5] [.blk g5 55 [(b32 ((((((ath (rounds s (schw b 64) k) 7) + (((ror32 (ath (rounds s (schw b 64) k) 4) 6) ^^^ (ror32 (ath (rounds s (schw b 64) k) 4) 11)) ^^^ (ror32 (ath (rounds s (schw b 64) k) 4) 25))) + (((ath (rounds s (schw b 64) k) 4) &&& (ath (rounds s (schw b 64) k) 5)) ^^^ ((~~~(ath (rounds s (schw b 64) k) 4)) &&& (ath (rounds s (schw b 64) k) 6)))) + (ath shaK k)) + (ath (schw b 64) k)) + ((((ror32 (ath (rounds s (schw b 64) k) 0) 2) ^^^ (ror32 (ath (rounds s (schw b 64) k) 0) 13)) ^^^ (ror32 (ath (rounds s (schw b 64) k) 0) 22)) + ((((ath (rounds s (schw b 64) k) 0) &&& (ath (rounds s (schw b 64) k) 1)) ^^^ ((ath (rounds s (schw b 64) k) 0) &&& (ath (rounds s (schw b 64) k) 2))) ^^^ ((ath (rounds s (schw b 64) k) 1) &&& (ath (rounds s (schw b 64) k) 2)))))), (b32 (ath (rounds s (schw b 64) k) 0)), (b32 (ath (rounds s (schw b 64) k) 1)), (b32 (ath (rounds s (schw b 64) k) 2)), (b32 ((ath (rounds s (schw b 64) k) 3) + (((((ath (rounds s (schw b 64) k) 7) + (((ror32 (ath (rounds s (schw b 64) k) 4) 6) ^^^ (ror32 (ath (rounds s (schw b 64) k) 4) 11)) ^^^ (ror32 (ath (rounds s (schw b 64) k) 4) 25))) + (((ath (rounds s (schw b 64) k) 4) &&& (ath (rounds s (schw b 64) k) 5)) ^^^ ((~~~(ath (rounds s (schw b 64) k) 4)) &&& (ath (rounds s (schw b 64) k) 6)))) + (ath shaK k)) + (ath (schw b 64) k)))), (b32 (ath (rounds s (schw b 64) k) 4)), (b32 (ath (rounds s (schw b 64) k) 5)), (b32 (ath (rounds s (schw b 64) k) 6))], .blk g6 33 ((schw b 64).map b32), .blk g2 55 [(b32 (0#32)), (b32 (0#32)), (b32 (0#32)), (b32 (0#32)), (b32 (0#32)), (b32 (0#32)), (b32 (0#32)), (b32 (0#32))], .blk g1 55 (s.map b32), .rd (some ⟨gk, 0, none⟩) 1 64 64 (shaK.map b32), .rd A 1 64 c (b.map b8)] ⟨by decide, rfl⟩ ?_
      refine T_reg hF rfl ?_
      refine L_op rfl (op_pr (pr_add (na_i64 (a := k) (b := 1) sd) rfl rfl rfl) rfl rfl ?_)
      refine L_op rfl (op_pr (pr_move rfl rfl) rfl rfl ?_)
      refine L_nil ?_
      refine T_re [(1, (.pointer (some ⟨gk, 0, none⟩))), (3, (.pointer (some ⟨g1, 0, none⟩))), (6, (.pointer (some ⟨g2, 0, none⟩))), (7, (.pointer (some ⟨g5, 0, none⟩))), (8, (.pointer (some ⟨g6, 0, none⟩))), (18, (.int .i64 ((k + 1 : Nat) : Int)))] (sc rfl (sc rfl (sc rfl (sc rfl (sc rfl (sc rfl sn)))))) ?_
      refine T_he [0, 1, 2, 3, 4, 5] [.blk g5 55 [(b32 ((((((ath (rounds s (schw b 64) k) 7) + (((ror32 (ath (rounds s (schw b 64) k) 4) 6) ^^^ (ror32 (ath (rounds s (schw b 64) k) 4) 11)) ^^^ (ror32 (ath (rounds s (schw b 64) k) 4) 25))) + (((ath (rounds s (schw b 64) k) 4) &&& (ath (rounds s (schw b 64) k) 5)) ^^^ ((~~~(ath (rounds s (schw b 64) k) 4)) &&& (ath (rounds s (schw b 64) k) 6)))) + (ath shaK k)) + (ath (schw b 64) k)) + ((((ror32 (ath (rounds s (schw b 64) k) 0) 2) ^^^ (ror32 (ath (rounds s (schw b 64) k) 0) 13)) ^^^ (ror32 (ath (rounds s (schw b 64) k) 0) 22)) + ((((ath (rounds s (schw b 64) k) 0) &&& (ath (rounds s (schw b 64) k) 1)) ^^^ ((ath (rounds s (schw b 64) k) 0) &&& (ath (rounds s (schw b 64) k) 2))) ^^^ ((ath (rounds s (schw b 64) k) 1) &&& (ath (rounds s (schw b 64) k) 2)))))), (b32 (ath (rounds s (schw b 64) k) 0)), (b32 (ath (rounds s (schw b 64) k) 1)), (b32 (ath (rounds s (schw b 64) k) 2)), (b32 ((ath (rounds s (schw b 64) k) 3) + (((((ath (rounds s (schw b 64) k) 7) + (((ror32 (ath (rounds s (schw b 64) k) 4) 6) ^^^ (ror32 (ath (rounds s (schw b 64) k) 4) 11)) ^^^ (ror32 (ath (rounds s (schw b 64) k) 4) 25))) + (((ath (rounds s (schw b 64) k) 4) &&& (ath (rounds s (schw b 64) k) 5)) ^^^ ((~~~(ath (rounds s (schw b 64) k) 4)) &&& (ath (rounds s (schw b 64) k) 6)))) + (ath shaK k)) + (ath (schw b 64) k)))), (b32 (ath (rounds s (schw b 64) k) 4)), (b32 (ath (rounds s (schw b 64) k) 5)), (b32 (ath (rounds s (schw b 64) k) 6))], .blk g6 33 ((schw b 64).map b32), .blk g2 55 [(b32 (0#32)), (b32 (0#32)), (b32 (0#32)), (b32 (0#32)), (b32 (0#32)), (b32 (0#32)), (b32 (0#32)), (b32 (0#32))], .blk g1 55 (s.map b32), .rd (some ⟨gk, 0, none⟩) 1 64 64 (shaK.map b32), .rd A 1 64 c (b.map b8)] ⟨by decide, rfl⟩ ?_
      refine T_as 0 (.blk g5 55 [(b32 ((((((ath (rounds s (schw b 64) k) 7) + (((ror32 (ath (rounds s (schw b 64) k) 4) 6) ^^^ (ror32 (ath (rounds s (schw b 64) k) 4) 11)) ^^^ (ror32 (ath (rounds s (schw b 64) k) 4) 25))) + (((ath (rounds s (schw b 64) k) 4) &&& (ath (rounds s (schw b 64) k) 5)) ^^^ ((~~~(ath (rounds s (schw b 64) k) 4)) &&& (ath (rounds s (schw b 64) k) 6)))) + (ath shaK k)) + (ath (schw b 64) k)) + ((((ror32 (ath (rounds s (schw b 64) k) 0) 2) ^^^ (ror32 (ath (rounds s (schw b 64) k) 0) 13)) ^^^ (ror32 (ath (rounds s (schw b 64) k) 0) 22)) + ((((ath (rounds s (schw b 64) k) 0) &&& (ath (rounds s (schw b 64) k) 1)) ^^^ ((ath (rounds s (schw b 64) k) 0) &&& (ath (rounds s (schw b 64) k) 2))) ^^^ ((ath (rounds s (schw b 64) k) 1) &&& (ath (rounds s (schw b 64) k) 2)))))), (b32 (ath (rounds s (schw b 64) k) 0)), (b32 (ath (rounds s (schw b 64) k) 1)), (b32 (ath (rounds s (schw b 64) k) 2)), (b32 ((ath (rounds s (schw b 64) k) 3) + (((((ath (rounds s (schw b 64) k) 7) + (((ror32 (ath (rounds s (schw b 64) k) 4) 6) ^^^ (ror32 (ath (rounds s (schw b 64) k) 4) 11)) ^^^ (ror32 (ath (rounds s (schw b 64) k) 4) 25))) + (((ath (rounds s (schw b 64) k) 4) &&& (ath (rounds s (schw b 64) k) 5)) ^^^ ((~~~(ath (rounds s (schw b 64) k) 4)) &&& (ath (rounds s (schw b 64) k) 6)))) + (ath shaK k)) + (ath (schw b 64) k)))), (b32 (ath (rounds s (schw b 64) k) 4)), (b32 (ath (rounds s (schw b 64) k) 5)), (b32 (ath (rounds s (schw b 64) k) 6))]) (.blk g5 55 ((rounds s (schw b 64) (k + 1)).map b32)) rfl (by rw [rounds_succ]; rfl) ?_
      exact T_again (k + 1) (by first | trivial | ((try dsimp only); first | omega | (refine ⟨?_, ?_⟩ <;> omega) | (refine ⟨?_, ?_, ?_⟩ <;> omega) | (simp; done) | (simp; omega))) (by first | trivial | ((try dsimp only); first | omega | (refine ⟨?_, ?_⟩ <;> omega) | (refine ⟨?_, ?_, ?_⟩ <;> omega) | (simp; done) | (simp; omega))) (sc rfl (sc rfl (sc rfl (sc rfl (sc rfl (sc rfl sn)))))) [1, 0, 2, 3, 4, 5] ⟨by decide, rfl⟩
    · skip
      have hc_27 := of_decide_eq_false hc_27
      refine T_exit rfl ?_
      obtain rfl : 64 = k := by omega
      refine T_seq ?_
      refine T_seq ?_
      refine T_reg hF rfl ?_
      refine L_op rfl (op_pr (pr_move rfl rfl) rfl rfl ?_)
      refine L_nil ?_
      refine T_re [(3, (.pointer (some ⟨g1, 0, none⟩))), (6, (.pointer (some ⟨g2, 0, none⟩))), (7, (.pointer (some ⟨g5, 0, none⟩))), (110, (.int .i64 ((0 : Nat) : Int)))] (sc rfl (sc rfl (sc rfl (sc rfl sn)))) ?_
      refine T_he [0, 1, 2, 3, 4, 5] [.blk g6 33 ((schw b 64).map b32), .blk g5 55 ((rounds s (schw b 64) 64).map b32), .blk g2 55 [(b32 (0#32)), (b32 (0#32)), (b32 (0#32)), (b32 (0#32)), (b32 (0#32)), (b32 (0#32)), (b32 (0#32)), (b32 (0#32))], .blk g1 55 (s.map b32), .rd (some ⟨gk, 0, none⟩) 1 64 64 (shaK.map b32), .rd A 1 64 c (b.map b8)] ⟨by decide, rfl⟩ ?_
      refine T_block ?_
      refine T_as 3 (.blk g1 55 (s.map b32)) (.blk g1 55 ((addt s (rounds s (schw b 64) 64) 0).map b32)) rfl (by rw [addt_zero]) ?_
      refine T_loop (T := Nat) (fun k => k ≤ 8) (fun k => [(3, (.pointer (some ⟨g1, 0, none⟩))), (6, (.pointer (some ⟨g2, 0, none⟩))), (7, (.pointer (some ⟨g5, 0, none⟩))), (110, (.int .i64 ((k : Nat) : Int)))]) (fun k => [.blk g6 33 ((schw b 64).map b32), .blk g5 55 ((rounds s (schw b 64) 64).map b32), .blk g2 55 [(b32 (0#32)), (b32 (0#32)), (b32 (0#32)), (b32 (0#32)), (b32 (0#32)), (b32 (0#32)), (b32 (0#32)), (b32 (0#32))], .blk g1 55 ((addt s (rounds s (schw b 64) 64) k).map b32), .rd (some ⟨gk, 0, none⟩) 1 64 64 (shaK.map b32), .rd A 1 64 c (b.map b8)]) (fun k => 8 - k) 0 (by first | trivial | ((try dsimp only); first | omega | (refine ⟨?_, ?_⟩ <;> omega) | (refine ⟨?_, ?_, ?_⟩ <;> omega) | (simp; done) | (simp; omega))) (sc rfl (sc rfl (sc rfl (sc rfl sn)))) [1, 2, 3, 0, 4, 5] ⟨by decide, rfl⟩ ?_
      rintro k hp
      have hp : k ≤ 8 := hp
      have hak := hal (rounds s (schw b 64) 64) k
      have hr64 := hrl 64
      refine T_re [(3, (.pointer (some ⟨g1, 0, none⟩))), (6, (.pointer (some ⟨g2, 0, none⟩))), (7, (.pointer (some ⟨g5, 0, none⟩))), (110, (.int .i64 ((k : Nat) : Int)))] (sc rfl (sc rfl (sc rfl (sc rfl sn)))) ?_
      refine T_he [0, 1, 2, 3, 4, 5] [.blk g6 33 ((schw b 64).map b32), .blk g5 55 ((rounds s (schw b 64) 64).map b32), .blk g2 55 [(b32 (0#32)), (b32 (0#32)), (b32 (0#32)), (b32 (0#32)), (b32 (0#32)), (b32 (0#32)), (b32 (0#32)), (b32 (0#32))], .blk g1 55 ((addt s (rounds s (schw b 64) 64) k).map b32), .rd (some ⟨gk, 0, none⟩) 1 64 64 (shaK.map b32), .rd A 1 64 c (b.map b8)] ⟨by decide, rfl⟩ ?_
      refine T_seq ?_
      refine T_reg hF rfl ?_
      refine L_op rfl (op_pr (pr_cmp (bo := .lss) (nc_lt (a := k) (b := 8)) rfl rfl rfl rfl) rfl rfl ?_)
      refine L_nil ?_
      refine T_re [(3, (.pointer (some ⟨g1, 0, none⟩))), (6, (.pointer (some ⟨g2, 0, none⟩))), (7, (.pointer (some ⟨g5, 0, none⟩))), (110, (.int .i64 ((k : Nat) : Int))), (111, (.bool (decide (k < 8))))] (sc rfl (sc rfl (sc rfl (sc rfl (sc rfl sn))))) ?_
      refine T_he [0, 1, 2, 3, 4, 5] [.blk g6 33 ((schw b 64).map b32), .blk g5 55 ((rounds s (schw b 64) 64).map b32), .blk g2 55 [(b32 (0#32)), (b32 (0#32)), (b32 (0#32)), (b32 (0#32)), (b32 (0#32)), (b32 (0#32)), (b32 (0#32)), (b32 (0#32))], .blk g1 55 ((addt s (rounds s (schw b 64) 64) k).map b32), .rd (some ⟨gk, 0, none⟩) 1 64 64 (shaK.map b32), .rd A 1 64 c (b.map b8)] ⟨by decide, rfl⟩ ?_
      refine T_seq ?_
      refine T_cond (decide (k < 8)) rfl (fun hc_40 => ?_) (fun hc_40 => ?_)
      · skip
        have hc_40 := of_decide_eq_true hc_40
        refine T_skip ?_
        refine T_seq ?_
        refine T_block ?_
        refine T_seq ?_
        refine T_reg hF rfl ?_
        refine L_op rfl (op_pr (pr_move rfl rfl) rfl rfl ?_)
        refine L_op rfl (op_pr (pr_assign rfl rfl) rfl rfl ?_)
        refine L_nil ?_
        refine T_re [(3, (.pointer (some ⟨g1, 0, none⟩))), (6, (.pointer (some ⟨g2, 0, none⟩))), (7, (.pointer (some ⟨g5, 0, none⟩))), (14, (.int .i64 ((k : Nat) : Int))), (110, (.int .i64 ((k : Nat) : Int)))] (sc rfl (sc rfl (sc rfl (sc rfl (sc rfl sn))))) ?_
        refine T_he [0, 1, 2, 3, 4, 5] [.blk g6 33 ((schw b 64).map b32), .blk g5 55 ((rounds s (schw b 64) 64).map b32), .blk g2 55 [(b32 (0#32)), (b32 (0#32)), (b32 (0#32)), (b32 (0#32)), (b32 (0#32)), (b32 (0#32)), (b32 (0#32)), (b32 (0#32))], .blk g1 55 ((addt s (rounds s (schw b 64) 64) k).map b32), .rd (some ⟨gk, 0, none⟩) 1 64 64 (shaK.map b32), .rd A 1 64 c (b.map b8)] ⟨by decide, rfl⟩ ?_
        refine T_regD [.blk g6 33 ((schw b 64).map b32), .blk g5 55 ((rounds s (schw b 64) 64).map b32), .blk g2 55 [(b32 (0#32)), (b32 (0#32)), (b32 (0#32)), (b32 (0#32)), (b32 (0#32)), (b32 (0#32)), (b32 (0#32)), (b32 (0#32))], .blk g1 55 ((addt s (rounds s (schw b 64) 64) k).map b32), .rd (some ⟨gk, 0, none⟩) 1 64 64 (shaK.map b32), .rd A 1 64 c (b.map b8)] 8 9 #[false, false, false, false, false, false, false, false, false] hF (by kernel_rfl) (by kernel_rfl) ?_
        refine D_pure (i := 0) [0, 1, 2, 3, 4, 5] rfl (by kernel_rfl) rfl (pr_move rfl rfl) (.inr rfl) rfl rfl ?_
        refine D_pure (i := 1) [0, 1, 2, 3, 4, 5] rfl (by kernel_rfl) rfl (pr_ixa (j := k) (m' := k) sd (by omega) Try.underlying55 (z := 1) (by kernel_rfl) rfl rfl rfl) (.inr rfl) rfl rfl ?_
        refine D_pure (i := 3) [0, 1, 2, 3, 4, 5] rfl (by kernel_rfl) rfl (pr_move rfl rfl) (.inr rfl) rfl rfl ?_
        refine D_pure (i := 4) [0, 1, 2, 3, 4, 5] rfl (by kernel_rfl) rfl (pr_ixa (j := k) (m' := k) sd (by omega) Try.underlying55 (z := 1) (by kernel_rfl) rfl rfl rfl) (.inr rfl) rfl rfl ?_
        refine D_take (i := 2) [0, 1, 2, 3, 4, 5] rfl (by kernel_rfl) rfl (ld_blk 3 rfl (get32 sd) Try.underlying32 rfl rfl rfl) rfl rfl rfl ?_
        refine D_take (i := 5) [0, 1, 2, 3, 4, 5] rfl (by kernel_rfl) rfl (ld_blk 1 rfl (get32 sd) Try.underlying32 rfl rfl rfl) rfl rfl rfl ?_
        refine D_pure (i := 6) [0, 1, 2, 3, 4, 5] rfl (by kernel_rfl) rfl (pr_add (add32 _ _) rfl rfl rfl) (.inr rfl) rfl rfl ?_
        refine D_pure (i := 7) [0, 1, 2, 3, 4, 5] rfl (by kernel_rfl) rfl (pr_ixa (j := k) (m' := k) sd (by omega) Try.underlying55 (z := 1) (by kernel_rfl) rfl rfl rfl) (.inr rfl) rfl rfl ?_
        refine D_one 8 _ rfl (by kernel_rfl) rfl (op_store (vs := [(b32 ((ath (addt s (rounds s (schw b 64) 64) k) k) + (ath (rounds s (schw b 64) 64) k)))]) (cs' := ((List.set (addt s (rounds s (schw b 64) 64) k) k ((ath (addt s (rounds s (schw b 64) 64) k) k) + (ath (rounds s (schw b 64) 64) k))).map b32)) 3 rfl rfl (by kernel_rfl) (one_one rfl) (by have : k < (addt s (rounds s (schw b 64) 64) k).length := sd; simp only [List.length_map, List.length_singleton]; omega) (splice_map (f := b32) sd) rfl rfl rfl rfl ?_)
        refine D_past (by kernel_rfl) ?_
        refine D_done (by kernel_rfl) ?_
        refine T_re [(3, (.pointer (some ⟨g1, 0, none⟩))), (6, (.pointer (some ⟨g2, 0, none⟩))), (7, (.pointer (some ⟨g5, 0, none⟩))), (110, (.int .i64 ((k : Nat) : Int)))] (sc rfl (sc rfl (sc rfl (sc rfl sn)))) ?_
        refine T_he [0, 1, 2, 3, 4, 5] [.blk g1 55 ((List.set (addt s (rounds s (schw b 64) 64) k) k ((ath (addt s (rounds s (schw b 64) 64) k) k) + (ath (rounds s (schw b 64) 64) k))).map b32), .blk g6 33 ((schw b 64).map b32), .blk g5 55 ((rounds s (schw b 64) 64).map b32), .blk g2 55 [(b32 (0#32)), (b32 (0#32)), (b32 (0#32)), (b32 (0#32)), (b32 (0#32)), (b32 (0#32)), (b32 (0#32)), (b32 (0#32))], .rd (some ⟨gk, 0, none⟩) 1 64 64 (shaK.map b32), .rd A 1 64 c (b.map b8)] ⟨by decide, rfl⟩ ?_
        refine T_reg hF rfl ?_
        refine L_op rfl (op_pr (pr_add (na_i64 (a := k) (b := 1) sd) rfl rfl rfl) rfl rfl ?_)
        refine L_op rfl (op_pr (pr_move rfl rfl) rfl rfl ?_)
        refine L_nil ?_
        refine T_re [(3, (.pointer (some ⟨g1, 0, none⟩))), (6, (.pointer (some ⟨g2, 0, none⟩))), (7, (.pointer (some ⟨g5, 0, none⟩))), (110, (.int .i64 ((k + 1 : Nat) : Int)))] (sc rfl (sc rfl (sc rfl (sc rfl sn)))) ?_
        refine T_he [0, 1, 2, 3, 4, 5] [.blk g1 55 ((List.set (addt s (rounds s (schw b 64) 64) k) k ((ath (addt s (rounds s (schw b 64) 64) k) k) + (ath (rounds s (schw b 64) 64) k))).map b32), .blk g6 33 ((schw b 64).map b32), .blk g5 55 ((rounds s (schw b 64) 64).map b32), .blk g2 55 [(b32 (0#32)), (b32 (0#32)), (b32 (0#32)), (b32 (0#32)), (b32 (0#32)), (b32 (0#32)), (b32 (0#32)), (b32 (0#32))], .rd (some ⟨gk, 0, none⟩) 1 64 64 (shaK.map b32), .rd A 1 64 c (b.map b8)] ⟨by decide, rfl⟩ ?_
        refine T_as 0 (.blk g1 55 ((List.set (addt s (rounds s (schw b 64) 64) k) k ((ath (addt s (rounds s (schw b 64) 64) k) k) + (ath (rounds s (schw b 64) 64) k))).map b32)) (.blk g1 55 ((addt s (rounds s (schw b 64) 64) (k + 1)).map b32)) rfl (by rw [addt_succ]) ?_
        exact T_again (k + 1) (by first | trivial | ((try dsimp only); first | omega | (refine ⟨?_, ?_⟩ <;> omega) | (refine ⟨?_, ?_, ?_⟩ <;> omega) | (simp; done) | (simp; omega))) (by first | trivial | ((try dsimp only); first | omega | (refine ⟨?_, ?_⟩ <;> omega) | (refine ⟨?_, ?_, ?_⟩ <;> omega) | (simp; done) | (simp; omega))) (sc rfl (sc rfl (sc rfl (sc rfl sn)))) [1, 2, 3, 0, 4, 5] ⟨by decide, rfl⟩
      · skip
        have hc_40 := of_decide_eq_false hc_40
        refine T_exit rfl ?_
        refine T_seq ?_
        refine T_reg hF rfl ?_
        refine L_op rfl (op_ld (ld_agg (ds := ((addt s (rounds s (schw b 64) 64) k).map b32)) 3 rfl agg_all Try.underlying55 rfl (by rw [show (((addt s (rounds s (schw b 64) 64) k).map b32)).length = 8 from sd]; kernel_rfl) rfl rfl) rfl rfl ?_)
        refine L_op rfl (op_store (vs := ((addt s (rounds s (schw b 64) 64) k).map b32)) (cs' := ((addt s (rounds s (schw b 64) 64) k).map b32)) 2 rfl rfl (by rw [show (((addt s (rounds s (schw b 64) 64) k).map b32)).length = 8 from sd]; kernel_rfl) (all32_one _) (by have h1 : ([(b32 (0#32)), (b32 (0#32)), (b32 (0#32)), (b32 (0#32)), (b32 (0#32)), (b32 (0#32)), (b32 (0#32)), (b32 (0#32))]).length = 8 := (by kernel_rfl); have h2 : (((addt s (rounds s (schw b 64) 64) k).map b32)).length = 8 := sd; omega) (splice_all (Eq.trans (b := 8) (by kernel_rfl) (Eq.symm sd))) rfl rfl rfl rfl ?_)
        refine L_nil ?_
        refine T_re [(6, (.pointer (some ⟨g2, 0, none⟩)))] (sc rfl sn) ?_
        refine T_he [0, 1, 2, 3, 4, 5] [.blk g2 55 ((addt s (rounds s (schw b 64) 64) k).map b32), .blk g6 33 ((schw b 64).map b32), .blk g5 55 ((rounds s (schw b 64) 64).map b32), .blk g1 55 ((addt s (rounds s (schw b 64) 64) k).map b32), .rd (some ⟨gk, 0, none⟩) 1 64 64 (shaK.map b32), .rd A 1 64 c (b.map b8)] ⟨by decide, rfl⟩ ?_
        refine T_ret ?_
        obtain rfl : 8 = k := by omega
        refine T_as 0 (.blk g2 55 ((addt s (rounds s (schw b 64) 64) 8).map b32)) (.blk g2 55 ((mixb s b).map b32)) rfl (by rw [mixb_def]) ?_
        exact T_fin () (by first | trivial | omega | (simp; done)) (resb 0 rfl rfl rfl Try.underlying55 rfl (by rw [show (((mixb s b).map b32)).length = 8 from sd]; kernel_rfl)) [] ⟨by decide, rfl⟩ rfl
end Go.Proofs.Ytmhkmamenfmolaa
