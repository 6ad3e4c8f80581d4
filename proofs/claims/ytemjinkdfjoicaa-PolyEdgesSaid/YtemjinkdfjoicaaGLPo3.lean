/- PolyEdges, walked by facts. -/
import Derived.Test.YtemjinkdfjoicaaGLPo
import Derived.Test.YtemjinkdfjoicaaProg
import Derived.Test.YtemjinkdfjoicaaFwU
namespace Go.Proofs.Ytemjinkdfjoicaa
set_option linter.unusedVariables false
set_option linter.unusedSimpArgs false
set_option linter.unnecessarySimpa false
open Go.RowKit Bv Fw

set_option maxRecDepth 100000 in
set_option maxHeartbeats 4000000 in
theorem polyEdges_f (z : Int) (fill : BitVec 8) (lo_ : BitVec 8) (y : Int) (w : World) (hO : HOK [] w)  : Calls Try.prog 4 [(.int .i64 z), (b8 fill), (b8 lo_), (.int .i64 y)].toArray w (Ret (T := Unit) [] w (fun _ => True) (fun _ => (.bool true)) (fun _ => [])) := by
  have hF : Wid Fence.wide := wid_wide
  refine enter (c := _) Try.func4 rfl [] [(.int .i64 z), (b8 fill), (b8 lo_), (.int .i64 y)] [] (by rw [Try.ntmps4]; rfl) (own_rds hO rfl) ?_
  rw [Try.ntmps4]
  refine T_re [(0, (.int .i64 z)), (1, (b8 fill)), (2, (b8 lo_)), (3, (.int .i64 y))] (sc rfl (sc rfl (sc rfl (sc rfl sn)))) ?_
  refine T_he [] [] ⟨by decide, rfl⟩ ?_
  refine T_seq ?_
  refine T_reg hF rfl ?_
  refine L_op rfl (op_pr (pr_assign rfl rfl) rfl rfl ?_)
  refine L_nil ?_
  refine T_re [(0, (.int .i64 z)), (1, (b8 fill)), (2, (b8 lo_)), (3, (.int .i64 y))] (sc rfl (sc rfl (sc rfl (sc rfl sn)))) ?_
  refine T_he [] [] ⟨by decide, rfl⟩ ?_
  refine T_seq ?_
  refine T_reg hF rfl ?_
  refine L_op rfl (op_pr (pr_move rfl rfl) rfl rfl ?_)
  refine L_op rfl (op_pr (pr_cv (zc_u64 z) Try.underlying3 Try.underlying33 rfl rfl) rfl rfl ?_)
  refine L_op rfl (op_pr (pr_rem (a := (BitVec.ofInt 64 z).toNat) (b := 80) sd rfl rfl rfl) rfl rfl ?_)
  refine L_op rfl (op_pr (pr_cv (ni_i64 (a := ((BitVec.ofInt 64 z).toNat) % 80) sd) Try.underlying33 Try.underlying3 rfl rfl) rfl rfl ?_)
  refine L_op rfl (op_pr (pr_assign rfl rfl) rfl rfl ?_)
  refine L_nil ?_
  obtain ⟨n, hn_n⟩ : ∃ x : Nat, ((BitVec.ofInt 64 z).toNat) % 80 = x := ⟨_, rfl⟩
  have hnb : n < 80 := by omega
  refine T_slot 0 (.int .i64 ((((BitVec.ofInt 64 z).toNat) % 80 : Nat) : Int)) (.int .i64 ((n : Nat) : Int)) rfl (by rw [hn_n]) ?_
  refine T_re [(0, (.int .i64 ((n : Nat) : Int))), (1, (b8 fill)), (2, (b8 lo_)), (3, (.int .i64 y))] (sc rfl (sc rfl (sc rfl (sc rfl sn)))) ?_
  refine T_he [] [] ⟨by decide, rfl⟩ ?_
  refine T_seq ?_
  refine T_reg hF rfl ?_
  refine L_op rfl (op_pr (pr_move rfl rfl) rfl rfl ?_)
  refine L_op rfl (op_make (z := (b8 (0#8))) (n := n) (c := n) Try.underlying25 (bytes := 1) (by kernel_rfl) rfl sd sd sd rfl rfl rfl rfl rfl (fun g1 => ?_))
  refine T_as 0 _ (.blk g1 5 ((List.replicate n 0#8).map b8)) rfl (by rw [List.map_replicate]) ?_
  refine L_op rfl (op_pr (pr_assign rfl rfl) rfl rfl ?_)
  refine L_nil ?_
  refine T_re [(0, (.int .i64 ((n : Nat) : Int))), (1, (b8 fill)), (2, (b8 lo_)), (3, (.int .i64 y)), (9, (.slice (some ⟨g1, 0, none⟩) n n))] (sc rfl (sc rfl (sc rfl (sc rfl (sc rfl sn))))) ?_
  refine T_he [0] [.blk g1 5 ((List.replicate n 0#8).map b8)] ⟨by decide, rfl⟩ ?_
  refine T_seq ?_
  refine T_seq ?_
  refine T_reg hF rfl ?_
  refine L_op rfl (op_pr (pr_move rfl rfl) rfl rfl ?_)
  refine L_op rfl (op_pr (pr_len_sl Try.underlying25 rfl rfl) rfl rfl ?_)
  refine L_op rfl (op_pr (pr_move rfl rfl) rfl rfl ?_)
  refine L_nil ?_
  refine T_re [(0, (.int .i64 ((n : Nat) : Int))), (1, (b8 fill)), (2, (b8 lo_)), (3, (.int .i64 y)), (9, (.slice (some ⟨g1, 0, none⟩) n n)), (20, (.int .i64 ((n : Nat) : Int))), (21, (.int .i64 ((0 : Nat) : Int)))] (sc rfl (sc rfl (sc rfl (sc rfl (sc rfl (sc rfl (sc rfl sn))))))) ?_
  refine T_he [0] [.blk g1 5 ((List.replicate n 0#8).map b8)] ⟨by decide, rfl⟩ ?_
  refine T_block ?_
  refine T_loop (T := Nat × List (BitVec 8)) (fun ⟨k, bs⟩ => k ≤ n ∧ bs.length = n) (fun ⟨k, bs⟩ => [(0, (.int .i64 ((n : Nat) : Int))), (1, (b8 fill)), (2, (b8 lo_)), (3, (.int .i64 y)), (9, (.slice (some ⟨g1, 0, none⟩) n n)), (20, (.int .i64 ((n : Nat) : Int))), (21, (.int .i64 ((k : Nat) : Int)))]) (fun ⟨k, bs⟩ => [.blk g1 5 (bs.map b8)]) (fun ⟨k, bs⟩ => n - k) (0, List.replicate n 0#8) (by simp) (sc rfl (sc rfl (sc rfl (sc rfl (sc rfl (sc rfl (sc rfl sn))))))) [0] ⟨by decide, rfl⟩ ?_
  rintro ⟨k, bs⟩ hp
  have hp : k ≤ n ∧ bs.length = n := hp
  have hbl := hp.2
  refine T_re [(0, (.int .i64 ((n : Nat) : Int))), (1, (b8 fill)), (2, (b8 lo_)), (3, (.int .i64 y)), (9, (.slice (some ⟨g1, 0, none⟩) n n)), (20, (.int .i64 ((n : Nat) : Int))), (21, (.int .i64 ((k : Nat) : Int)))] (sc rfl (sc rfl (sc rfl (sc rfl (sc rfl (sc rfl (sc rfl sn))))))) ?_
  refine T_he [0] [.blk g1 5 (bs.map b8)] ⟨by decide, rfl⟩ ?_
  refine T_seq ?_
  refine T_reg hF rfl ?_
  refine L_op rfl (op_pr (pr_cmp (bo := .lss) (nc_lt (a := k) (b := n)) rfl rfl rfl rfl) rfl rfl ?_)
  refine L_nil ?_
  refine T_re [(0, (.int .i64 ((n : Nat) : Int))), (1, (b8 fill)), (2, (b8 lo_)), (3, (.int .i64 y)), (9, (.slice (some ⟨g1, 0, none⟩) n n)), (20, (.int .i64 ((n : Nat) : Int))), (21, (.int .i64 ((k : Nat) : Int))), (22, (.bool (decide (k < n))))] (sc rfl (sc rfl (sc rfl (sc rfl (sc rfl (sc rfl (sc rfl (sc rfl sn)))))))) ?_
  refine T_he [0] [.blk g1 5 (bs.map b8)] ⟨by decide, rfl⟩ ?_
  refine T_seq ?_
  refine T_cond (decide (k < n)) rfl (fun hc_2 => ?_) (fun hc_2 => ?_)
  · skip
    have hc_2 := of_decide_eq_true hc_2
    refine T_skip ?_
    refine T_seq ?_
    refine T_block ?_
    refine T_seq ?_
    refine T_reg hF rfl ?_
    refine L_op rfl (op_pr (pr_move rfl rfl) rfl rfl ?_)
    refine L_op rfl (op_pr (pr_assign rfl rfl) rfl rfl ?_)
    refine L_nil ?_
    refine T_re [(0, (.int .i64 ((n : Nat) : Int))), (1, (b8 fill)), (2, (b8 lo_)), (3, (.int .i64 y)), (9, (.slice (some ⟨g1, 0, none⟩) n n)), (10, (.int .i64 ((k : Nat) : Int))), (20, (.int .i64 ((n : Nat) : Int))), (21, (.int .i64 ((k : Nat) : Int)))] (sc rfl (sc rfl (sc rfl (sc rfl (sc rfl (sc rfl (sc rfl (sc rfl sn)))))))) ?_
    refine T_he [0] [.blk g1 5 (bs.map b8)] ⟨by decide, rfl⟩ ?_
    refine T_reg hF rfl ?_
    refine L_op rfl (op_pr (pr_move rfl rfl) rfl rfl ?_)
    refine L_op rfl (op_pr (pr_move rfl rfl) rfl rfl ?_)
    refine L_op rfl (op_pr (pr_move rfl rfl) rfl rfl ?_)
    refine L_op rfl (op_pr (pr_move rfl rfl) rfl rfl ?_)
    refine L_op rfl (op_pr (pr_cv (nw8 k) Try.underlying3 Try.underlying5 rfl rfl) rfl rfl ?_)
    refine L_op rfl (op_pr (pr_and (ib_and8 _ _) rfl rfl rfl) rfl rfl ?_)
    refine L_op rfl (op_pr (pr_sub (sub8 (255#8) _) rfl rfl rfl) rfl rfl ?_)
    refine L_op rfl (op_pr (pr_ixb (j := k) (m' := k) sd (by omega) Try.underlying25 (z := 1) (by kernel_rfl) rfl rfl rfl) rfl rfl ?_)
    refine L_op rfl (op_store (vs := [(b8 (255#8 - (fill &&& (BitVec.ofNat 8 k))))]) (cs' := ((List.set bs k (255#8 - (fill &&& (BitVec.ofNat 8 k)))).map b8)) 0 rfl rfl (by kernel_rfl) (one_one rfl) (by have : k < (bs).length := sd; simp only [List.length_map, List.length_singleton]; omega) (splice_map (f := b8) sd) rfl rfl rfl rfl ?_)
    refine L_nil ?_
    refine T_re [(0, (.int .i64 ((n : Nat) : Int))), (1, (b8 fill)), (2, (b8 lo_)), (3, (.int .i64 y)), (9, (.slice (some ⟨g1, 0, none⟩) n n)), (20, (.int .i64 ((n : Nat) : Int))), (21, (.int .i64 ((k : Nat) : Int)))] (sc rfl (sc rfl (sc rfl (sc rfl (sc rfl (sc rfl (sc rfl sn))))))) ?_
    refine T_he [0] [.blk g1 5 ((List.set bs k (255#8 - (fill &&& (BitVec.ofNat 8 k)))).map b8)] ⟨by decide, rfl⟩ ?_
    refine T_reg hF rfl ?_
    refine L_op rfl (op_pr (pr_add (na_i64 (a := k) (b := 1) sd) rfl rfl rfl) rfl rfl ?_)
    refine L_op rfl (op_pr (pr_move rfl rfl) rfl rfl ?_)
    refine L_nil ?_
    refine T_re [(0, (.int .i64 ((n : Nat) : Int))), (1, (b8 fill)), (2, (b8 lo_)), (3, (.int .i64 y)), (9, (.slice (some ⟨g1, 0, none⟩) n n)), (20, (.int .i64 ((n : Nat) : Int))), (21, (.int .i64 ((k + 1 : Nat) : Int)))] (sc rfl (sc rfl (sc rfl (sc rfl (sc rfl (sc rfl (sc rfl sn))))))) ?_
    refine T_he [0] [.blk g1 5 ((List.set bs k (255#8 - (fill &&& (BitVec.ofNat 8 k)))).map b8)] ⟨by decide, rfl⟩ ?_
    exact T_again (k + 1, (List.set bs k (255#8 - (fill &&& (BitVec.ofNat 8 k))))) (by simp; omega) (by first | trivial | ((try dsimp only); first | omega | (refine ⟨?_, ?_⟩ <;> omega) | (refine ⟨?_, ?_, ?_⟩ <;> omega) | (simp; done) | (simp; omega))) (sc rfl (sc rfl (sc rfl (sc rfl (sc rfl (sc rfl (sc rfl sn))))))) [0] ⟨by decide, rfl⟩
  · skip
    have hc_2 := of_decide_eq_false hc_2
    refine T_exit rfl ?_
    obtain rfl : n = k := by omega
    refine T_seq ?_
    refine T_seq ?_
    refine T_reg hF rfl ?_
    refine L_op rfl (op_pr (pr_move rfl rfl) rfl rfl ?_)
    refine L_op rfl (op_pr (pr_cmp (bo := .gtr) (nc_lt (a := 0) (b := n)) rfl rfl rfl rfl) rfl rfl ?_)
    refine L_nil ?_
    refine T_re [(0, (.int .i64 ((n : Nat) : Int))), (2, (b8 lo_)), (3, (.int .i64 y)), (9, (.slice (some ⟨g1, 0, none⟩) n n)), (34, (.bool (decide (0 < n))))] (sc rfl (sc rfl (sc rfl (sc rfl (sc rfl sn))))) ?_
    refine T_he [0] [.blk g1 5 (bs.map b8)] ⟨by decide, rfl⟩ ?_
    refine T_cond (decide (0 < n)) rfl (fun hc_3 => ?_) (fun hc_3 => ?_)
    · skip
      have hc_3 := of_decide_eq_true hc_3
      refine T_reg hF rfl ?_
      refine L_op rfl (op_pr (pr_move rfl rfl) rfl rfl ?_)
      refine L_op rfl (op_pr (pr_move rfl rfl) rfl rfl ?_)
      refine L_op rfl (op_pr (pr_cv (zc_u64 y) Try.underlying3 Try.underlying33 rfl rfl) rfl rfl ?_)
      refine L_op rfl (op_pr (pr_move rfl rfl) rfl rfl ?_)
      refine L_op rfl (op_pr (pr_cv (ni_u64 (a := n) sd) Try.underlying3 Try.underlying33 rfl rfl) rfl rfl ?_)
      refine L_op rfl (op_pr (pr_rem (a := (BitVec.ofInt 64 y).toNat) (b := n) sd rfl rfl rfl) rfl rfl ?_)
      obtain ⟨a1, ha1⟩ : ∃ x : Nat, ((BitVec.ofInt 64 y).toNat) % n = x := ⟨_, rfl⟩
      have ha2 : a1 < n := by rw [← ha1]; exact Nat.mod_lt _ (by omega)
      refine T_slot 40 (.int .u64 ((((BitVec.ofInt 64 y).toNat) % n : Nat) : Int)) (.int .u64 ((a1 : Nat) : Int)) rfl (by rw [ha1]) ?_
      refine L_op rfl (op_pr (pr_cv (ni_i64 (a := a1) sd) Try.underlying33 Try.underlying3 rfl rfl) rfl rfl ?_)
      refine L_op rfl (op_pr (pr_move rfl rfl) rfl rfl ?_)
      refine L_op rfl (op_pr (pr_ixb (j := a1) (m' := a1) sd (by omega) Try.underlying25 (z := 1) (by kernel_rfl) rfl rfl rfl) rfl rfl ?_)
      refine L_op rfl (op_store (vs := [(b8 lo_)]) (cs' := ((List.set bs a1 lo_).map b8)) 0 rfl rfl (by kernel_rfl) (one_one rfl) (by have : a1 < (bs).length := sd; simp only [List.length_map, List.length_singleton]; omega) (splice_map (f := b8) sd) rfl rfl rfl rfl ?_)
      refine L_nil ?_
      refine T_re [(2, (b8 lo_)), (3, (.int .i64 y)), (9, (.slice (some ⟨g1, 0, none⟩) n n))] (sc rfl (sc rfl (sc rfl sn))) ?_
      refine T_he [0] [.blk g1 5 ((List.set bs a1 lo_).map b8)] ⟨by decide, rfl⟩ ?_
      refine T_seq ?_
      refine T_reg hF rfl ?_
      refine L_op rfl (op_alloc (z := .agg ((List.replicate 32 0#8).map b8).toArray) (zs := ((List.replicate 32 0#8).map b8)) (by kernel_rfl) rfl rfl rfl rfl (fun g4 => ?_))
      refine L_nil ?_
      refine T_re [(2, (b8 lo_)), (3, (.int .i64 y)), (9, (.slice (some ⟨g1, 0, none⟩) n n)), (11, (.pointer (some ⟨g4, 0, none⟩)))] (sc rfl (sc rfl (sc rfl (sc rfl sn)))) ?_
      refine T_he [0, 1] [.blk g4 22 ((List.replicate 32 0#8).map b8), .blk g1 5 ((List.set bs a1 lo_).map b8)] ⟨by decide, rfl⟩ ?_
      refine T_seq ?_
      refine T_seq ?_
      refine T_reg hF rfl ?_
      refine L_op rfl (op_pr (pr_move rfl rfl) rfl rfl ?_)
      refine L_nil ?_
      refine T_re [(2, (b8 lo_)), (3, (.int .i64 y)), (9, (.slice (some ⟨g1, 0, none⟩) n n)), (11, (.pointer (some ⟨g4, 0, none⟩))), (44, (.int .i64 ((0 : Nat) : Int)))] (sc rfl (sc rfl (sc rfl (sc rfl (sc rfl sn))))) ?_
      refine T_he [0, 1] [.blk g4 22 ((List.replicate 32 0#8).map b8), .blk g1 5 ((List.set bs a1 lo_).map b8)] ⟨by decide, rfl⟩ ?_
      refine T_block ?_
      refine T_loop (T := Nat × List (BitVec 8)) (fun ⟨i, ks⟩ => i ≤ 32 ∧ ks.length = 32) (fun ⟨i, ks⟩ => [(2, (b8 lo_)), (3, (.int .i64 y)), (9, (.slice (some ⟨g1, 0, none⟩) n n)), (11, (.pointer (some ⟨g4, 0, none⟩))), (44, (.int .i64 ((i : Nat) : Int)))]) (fun ⟨i, ks⟩ => [.blk g4 22 (ks.map b8), .blk g1 5 ((List.set bs a1 lo_).map b8)]) (fun ⟨i, ks⟩ => 32 - i) (0, List.replicate 32 0#8) (by simp) (sc rfl (sc rfl (sc rfl (sc rfl (sc rfl sn))))) [0, 1] ⟨by decide, rfl⟩ ?_
      rintro ⟨i, ks⟩ hp
      have hp : i ≤ 32 ∧ ks.length = 32 := hp
      have hkl := hp.2
      refine T_re [(2, (b8 lo_)), (3, (.int .i64 y)), (9, (.slice (some ⟨g1, 0, none⟩) n n)), (11, (.pointer (some ⟨g4, 0, none⟩))), (44, (.int .i64 ((i : Nat) : Int)))] (sc rfl (sc rfl (sc rfl (sc rfl (sc rfl sn))))) ?_
      refine T_he [0, 1] [.blk g4 22 (ks.map b8), .blk g1 5 ((List.set bs a1 lo_).map b8)] ⟨by decide, rfl⟩ ?_
      refine T_seq ?_
      refine T_reg hF rfl ?_
      refine L_op rfl (op_pr (pr_cmp (bo := .lss) (nc_lt (a := i) (b := 32)) rfl rfl rfl rfl) rfl rfl ?_)
      refine L_nil ?_
      refine T_re [(2, (b8 lo_)), (3, (.int .i64 y)), (9, (.slice (some ⟨g1, 0, none⟩) n n)), (11, (.pointer (some ⟨g4, 0, none⟩))), (44, (.int .i64 ((i : Nat) : Int))), (45, (.bool (decide (i < 32))))] (sc rfl (sc rfl (sc rfl (sc rfl (sc rfl (sc rfl sn)))))) ?_
      refine T_he [0, 1] [.blk g4 22 (ks.map b8), .blk g1 5 ((List.set bs a1 lo_).map b8)] ⟨by decide, rfl⟩ ?_
      refine T_seq ?_
      refine T_cond (decide (i < 32)) rfl (fun hc_5 => ?_) (fun hc_5 => ?_)
      · skip
        have hc_5 := of_decide_eq_true hc_5
        refine T_skip ?_
        refine T_seq ?_
        refine T_block ?_
        refine T_seq ?_
        refine T_reg hF rfl ?_
        refine L_op rfl (op_pr (pr_move rfl rfl) rfl rfl ?_)
        refine L_op rfl (op_pr (pr_assign rfl rfl) rfl rfl ?_)
        refine L_nil ?_
        refine T_re [(2, (b8 lo_)), (3, (.int .i64 y)), (9, (.slice (some ⟨g1, 0, none⟩) n n)), (11, (.pointer (some ⟨g4, 0, none⟩))), (12, (.int .i64 ((i : Nat) : Int))), (44, (.int .i64 ((i : Nat) : Int)))] (sc rfl (sc rfl (sc rfl (sc rfl (sc rfl (sc rfl sn)))))) ?_
        refine T_he [0, 1] [.blk g4 22 (ks.map b8), .blk g1 5 ((List.set bs a1 lo_).map b8)] ⟨by decide, rfl⟩ ?_
        refine T_reg hF rfl ?_
        refine L_op rfl (op_pr (pr_move rfl rfl) rfl rfl ?_)
        refine L_op rfl (op_pr (pr_ixa (j := i) (m' := i) sd (by omega) Try.underlying22 (z := 1) (by kernel_rfl) rfl rfl rfl) rfl rfl ?_)
        refine L_op rfl (op_store (vs := [(b8 (255#8))]) (cs' := ((List.set ks i (255#8)).map b8)) 0 rfl rfl (by kernel_rfl) (one_one rfl) (by have : i < (ks).length := sd; simp only [List.length_map, List.length_singleton]; omega) (splice_map (f := b8) sd) rfl rfl rfl rfl ?_)
        refine L_nil ?_
        refine T_re [(2, (b8 lo_)), (3, (.int .i64 y)), (9, (.slice (some ⟨g1, 0, none⟩) n n)), (11, (.pointer (some ⟨g4, 0, none⟩))), (44, (.int .i64 ((i : Nat) : Int)))] (sc rfl (sc rfl (sc rfl (sc rfl (sc rfl sn))))) ?_
        refine T_he [0, 1] [.blk g4 22 ((List.set ks i (255#8)).map b8), .blk g1 5 ((List.set bs a1 lo_).map b8)] ⟨by decide, rfl⟩ ?_
        refine T_reg hF rfl ?_
        refine L_op rfl (op_pr (pr_add (na_i64 (a := i) (b := 1) sd) rfl rfl rfl) rfl rfl ?_)
        refine L_op rfl (op_pr (pr_move rfl rfl) rfl rfl ?_)
        refine L_nil ?_
        refine T_re [(2, (b8 lo_)), (3, (.int .i64 y)), (9, (.slice (some ⟨g1, 0, none⟩) n n)), (11, (.pointer (some ⟨g4, 0, none⟩))), (44, (.int .i64 ((i + 1 : Nat) : Int)))] (sc rfl (sc rfl (sc rfl (sc rfl (sc rfl sn))))) ?_
        refine T_he [0, 1] [.blk g4 22 ((List.set ks i (255#8)).map b8), .blk g1 5 ((List.set bs a1 lo_).map b8)] ⟨by decide, rfl⟩ ?_
        exact T_again (i + 1, (List.set ks i (255#8))) (by simp; omega) (by first | trivial | ((try dsimp only); first | omega | (refine ⟨?_, ?_⟩ <;> omega) | (refine ⟨?_, ?_, ?_⟩ <;> omega) | (simp; done) | (simp; omega))) (sc rfl (sc rfl (sc rfl (sc rfl (sc rfl sn))))) [0, 1] ⟨by decide, rfl⟩
      · skip
        have hc_5 := of_decide_eq_false hc_5
        refine T_exit rfl ?_
        obtain rfl : 32 = i := by omega
        refine T_seq ?_
        refine T_reg hF rfl ?_
        refine L_op rfl (op_pr (pr_move rfl rfl) rfl rfl ?_)
        refine L_op rfl (op_pr (pr_cv (zc_u64 y) Try.underlying3 Try.underlying33 rfl rfl) rfl rfl ?_)
        refine L_op rfl (op_pr (pr_rem (a := (BitVec.ofInt 64 y).toNat) (b := 32) sd rfl rfl rfl) rfl rfl ?_)
        refine L_op rfl (op_pr (pr_cv (ni_i64 (a := ((BitVec.ofInt 64 y).toNat) % 32) sd) Try.underlying33 Try.underlying3 rfl rfl) rfl rfl ?_)
        refine L_op rfl (op_pr (pr_move rfl rfl) rfl rfl ?_)
        refine L_op rfl (op_pr (pr_ixa (j := ((BitVec.ofInt 64 y).toNat) % 32) (m' := ((BitVec.ofInt 64 y).toNat) % 32) sd (by omega) Try.underlying22 (z := 1) (by kernel_rfl) rfl rfl rfl) rfl rfl ?_)
        refine L_op rfl (op_store (vs := [(b8 lo_)]) (cs' := ((List.set ks (((BitVec.ofInt 64 y).toNat) % 32) lo_).map b8)) 0 rfl rfl (by kernel_rfl) (one_one rfl) (by have : ((BitVec.ofInt 64 y).toNat) % 32 < (ks).length := sd; simp only [List.length_map, List.length_singleton]; omega) (splice_map (f := b8) sd) rfl rfl rfl rfl ?_)
        refine L_nil ?_
        refine T_re [(9, (.slice (some ⟨g1, 0, none⟩) n n)), (11, (.pointer (some ⟨g4, 0, none⟩)))] (sc rfl (sc rfl sn)) ?_
        refine T_he [0, 1] [.blk g4 22 ((List.set ks (((BitVec.ofInt 64 y).toNat) % 32) lo_).map b8), .blk g1 5 ((List.set bs a1 lo_).map b8)] ⟨by decide, rfl⟩ ?_
        refine T_seq ?_
        refine T_regD [.blk g4 22 ((List.set ks (((BitVec.ofInt 64 y).toNat) % 32) lo_).map b8), .blk g1 5 ((List.set bs a1 lo_).map b8)] 12 12 #[false, false, false, false, false, false, false, false, false, false, false, false] hF (by kernel_rfl) (by kernel_rfl) ?_
        refine D_one 0 _ rfl (by kernel_rfl) rfl (op_call0 (vs := []) (cap := []) (fun w hw => awake6_f  w (hok_nil w) ) (enters_of Try.func16 (by kernel_rfl) rfl) rfl rfl rfl rfl rfl (fun t6 q7 => ?_))
        refine D_on [0, 1] rfl ?_
        refine D_pure (i := 1) [0, 1] rfl (by kernel_rfl) rfl (pr_move rfl rfl) (.inr rfl) rfl rfl ?_
        refine D_pure (i := 3) [0, 1] rfl (by kernel_rfl) rfl (pr_move rfl rfl) (.inr rfl) rfl rfl ?_
        refine D_pure (i := 7) [0, 1] rfl (by kernel_rfl) rfl (pr_move rfl rfl) (.inr rfl) rfl rfl ?_
        refine D_take (i := 2) [0, 1] rfl (by kernel_rfl) rfl (ld_agg (ds := ((List.set ks (((BitVec.ofInt 64 y).toNat) % 32) lo_).map b8)) 0 rfl agg_all Try.underlying22 rfl (by rw [show (((List.set ks (((BitVec.ofInt 64 y).toNat) % 32) lo_).map b8)).length = 32 from sd]; kernel_rfl) rfl rfl) rfl rfl rfl ?_
        refine D_take (i := 6) [0, 1] rfl (by kernel_rfl) rfl (ld_agg (ds := ((List.set ks (((BitVec.ofInt 64 y).toNat) % 32) lo_).map b8)) 0 rfl agg_all Try.underlying22 rfl (by rw [show (((List.set ks (((BitVec.ofInt 64 y).toNat) % 32) lo_).map b8)).length = 32 from sd]; kernel_rfl) rfl rfl) rfl rfl rfl ?_
        refine D_one 4 _ rfl (by kernel_rfl) rfl (op_bslice (e := 25) (zs := [(.slice (some ⟨g1, 0, none⟩) n n)]) (qs := [(0, (.slice (some ⟨g1, 0, none⟩) n n))]) (fun _ => by kernel_rfl) rfl rfl rfl rfl (fun g8 => ?_))
        refine D_on [1, 2] rfl ?_
        refine D_one 5 _ rfl (by kernel_rfl) rfl (op_call0 (vs := [(.agg ((List.set ks (((BitVec.ofInt 64 y).toNat) % 32) lo_).map b8).toArray), (.slice (some ⟨g8, 0, none⟩) 1 1)]) (cap := []) (fun w hw => ptag_f (List.set ks (((BitVec.ofInt 64 y).toNat) % 32) lo_) [(Pt.mk (some ⟨g1, 0, none⟩) n n (List.set bs a1 lo_))] (some ⟨g8, 0, none⟩) 1 1 w (hok_cons ((src_full (z := 1) 0 rfl rfl sd sd) w hw) (hok_cons (all_cons ((src_full (z := 1) 2 rfl sd sd sd) w hw) (all_nil w)) (hok_nil w))) sd sd sd (by first | assumption | omega | (simp only [c6_cons, c6_nil, List.append_nil, List.length_append]; omega) | (simp [c6_cons, c6_nil]; done) | (simp [c6_cons, c6_nil]; omega))) (enters_of Try.func18 (by kernel_rfl) rfl) rfl rfl rfl rfl rfl (fun t9 q10 => ?_))
        refine T_slot 61 (.agg ((ptag (List.set ks (((BitVec.ofInt 64 y).toNat) % 32) lo_) (catp [(Pt.mk (some ⟨g1, 0, none⟩) n n (List.set bs a1 lo_))])).map b8).toArray) (.agg ((ptag (List.set ks (((BitVec.ofInt 64 y).toNat) % 32) lo_) (List.set bs a1 lo_)).map b8).toArray) rfl (by rw [c6_one]) ?_
        have hpl := ptag_len (List.set ks (((BitVec.ofInt 64 y).toNat) % 32) lo_) (List.set bs a1 lo_)
        refine D_on [1, 2] rfl ?_
        refine D_one 8 _ rfl (by kernel_rfl) rfl (op_call0 (vs := [(.agg ((List.set ks (((BitVec.ofInt 64 y).toNat) % 32) lo_).map b8).toArray), (.slice (some ⟨g1, 0, none⟩) n n)]) (cap := []) (fun w hw => rtag_f (List.set ks (((BitVec.ofInt 64 y).toNat) % 32) lo_) (List.set bs a1 lo_) (some ⟨g1, 0, none⟩) n n w (hok_cons ((src_full (z := 1) 2 rfl sd sd sd) w hw) (hok_nil w)) sd (by first | assumption | omega | (simp; done) | (simp; omega)) sd) (enters_of Try.func19 (by kernel_rfl) rfl) rfl rfl rfl rfl rfl (fun t11 q12 => ?_))
        refine D_on [1, 2] rfl ?_
        refine D_pure (i := 9) [1, 2] rfl (by kernel_rfl) rfl (pr_eqagg (bo := .eql) (c := ((ptag (List.set ks (((BitVec.ofInt 64 y).toNat) % 32) lo_) (List.set bs a1 lo_)) == (ptag (List.set ks (((BitVec.ofInt 64 y).toNat) % 32) lo_) (List.set bs a1 lo_)))) (r := ((ptag (List.set ks (((BitVec.ofInt 64 y).toNat) % 32) lo_) (List.set bs a1 lo_)) == (ptag (List.set ks (((BitVec.ofInt 64 y).toNat) % 32) lo_) (List.set bs a1 lo_)))) (eqb8 (xs := (ptag (List.set ks (((BitVec.ofInt 64 y).toNat) % 32) lo_) (List.set bs a1 lo_))) (ys := (ptag (List.set ks (((BitVec.ofInt 64 y).toNat) % 32) lo_) (List.set bs a1 lo_))) Try.underlying27 Try.underlying5 (by kernel_rfl) sd sd) (by kernel_rfl) rfl rfl rfl rfl rfl) (.inr rfl) rfl rfl ?_
        refine D_pure (i := 10) [1, 2] rfl (by kernel_rfl) rfl (pr_pick_t rfl rfl rfl) (.inr rfl) rfl rfl ?_
        refine D_pure (i := 11) [1, 2] rfl (by kernel_rfl) rfl (pr_assign rfl rfl) (.inr rfl) rfl rfl ?_
        refine D_done (by kernel_rfl) ?_
        refine T_re [(8, (.bool ((ptag (List.set ks (((BitVec.ofInt 64 y).toNat) % 32) lo_) (List.set bs a1 lo_)) == (ptag (List.set ks (((BitVec.ofInt 64 y).toNat) % 32) lo_) (List.set bs a1 lo_)))))] (sc rfl sn) ?_
        refine T_he [0, 1, 2] [.blk g8 25 [(.slice (some ⟨g1, 0, none⟩) n n)], .blk g4 22 ((List.set ks (((BitVec.ofInt 64 y).toNat) % 32) lo_).map b8), .blk g1 5 ((List.set bs a1 lo_).map b8)] ⟨by decide, rfl⟩ ?_
        refine T_ret ?_
        refine T_slot 8 (.bool ((ptag (List.set ks (((BitVec.ofInt 64 y).toNat) % 32) lo_) (List.set bs a1 lo_)) == (ptag (List.set ks (((BitVec.ofInt 64 y).toNat) % 32) lo_) (List.set bs a1 lo_)))) (.bool true) rfl (by simp) ?_
        exact T_fin () (by first | trivial | omega | (simp; done)) (res1 rfl rfl) [] ⟨by decide, rfl⟩ rfl
    · skip
      have hc_3 := of_decide_eq_false hc_3
      refine T_skip ?_
      refine T_seq ?_
      refine T_reg hF rfl ?_
      refine L_op rfl (op_alloc (z := .agg ((List.replicate 32 0#8).map b8).toArray) (zs := ((List.replicate 32 0#8).map b8)) (by kernel_rfl) rfl rfl rfl rfl (fun g13 => ?_))
      refine L_nil ?_
      refine T_re [(2, (b8 lo_)), (3, (.int .i64 y)), (9, (.slice (some ⟨g1, 0, none⟩) n n)), (11, (.pointer (some ⟨g13, 0, none⟩)))] (sc rfl (sc rfl (sc rfl (sc rfl sn)))) ?_
      refine T_he [0, 1] [.blk g13 22 ((List.replicate 32 0#8).map b8), .blk g1 5 (bs.map b8)] ⟨by decide, rfl⟩ ?_
      refine T_seq ?_
      refine T_seq ?_
      refine T_reg hF rfl ?_
      refine L_op rfl (op_pr (pr_move rfl rfl) rfl rfl ?_)
      refine L_nil ?_
      refine T_re [(2, (b8 lo_)), (3, (.int .i64 y)), (9, (.slice (some ⟨g1, 0, none⟩) n n)), (11, (.pointer (some ⟨g13, 0, none⟩))), (44, (.int .i64 ((0 : Nat) : Int)))] (sc rfl (sc rfl (sc rfl (sc rfl (sc rfl sn))))) ?_
      refine T_he [0, 1] [.blk g13 22 ((List.replicate 32 0#8).map b8), .blk g1 5 (bs.map b8)] ⟨by decide, rfl⟩ ?_
      refine T_block ?_
      refine T_loop (T := Nat × List (BitVec 8)) (fun ⟨i, ks⟩ => i ≤ 32 ∧ ks.length = 32) (fun ⟨i, ks⟩ => [(2, (b8 lo_)), (3, (.int .i64 y)), (9, (.slice (some ⟨g1, 0, none⟩) n n)), (11, (.pointer (some ⟨g13, 0, none⟩))), (44, (.int .i64 ((i : Nat) : Int)))]) (fun ⟨i, ks⟩ => [.blk g13 22 (ks.map b8), .blk g1 5 (bs.map b8)]) (fun ⟨i, ks⟩ => 32 - i) (0, List.replicate 32 0#8) (by simp) (sc rfl (sc rfl (sc rfl (sc rfl (sc rfl sn))))) [0, 1] ⟨by decide, rfl⟩ ?_
      rintro ⟨i, ks⟩ hp
      have hp : i ≤ 32 ∧ ks.length = 32 := hp
      have hkl := hp.2
      refine T_re [(2, (b8 lo_)), (3, (.int .i64 y)), (9, (.slice (some ⟨g1, 0, none⟩) n n)), (11, (.pointer (some ⟨g13, 0, none⟩))), (44, (.int .i64 ((i : Nat) : Int)))] (sc rfl (sc rfl (sc rfl (sc rfl (sc rfl sn))))) ?_
      refine T_he [0, 1] [.blk g13 22 (ks.map b8), .blk g1 5 (bs.map b8)] ⟨by decide, rfl⟩ ?_
      refine T_seq ?_
      refine T_reg hF rfl ?_
      refine L_op rfl (op_pr (pr_cmp (bo := .lss) (nc_lt (a := i) (b := 32)) rfl rfl rfl rfl) rfl rfl ?_)
      refine L_nil ?_
      refine T_re [(2, (b8 lo_)), (3, (.int .i64 y)), (9, (.slice (some ⟨g1, 0, none⟩) n n)), (11, (.pointer (some ⟨g13, 0, none⟩))), (44, (.int .i64 ((i : Nat) : Int))), (45, (.bool (decide (i < 32))))] (sc rfl (sc rfl (sc rfl (sc rfl (sc rfl (sc rfl sn)))))) ?_
      refine T_he [0, 1] [.blk g13 22 (ks.map b8), .blk g1 5 (bs.map b8)] ⟨by decide, rfl⟩ ?_
      refine T_seq ?_
      refine T_cond (decide (i < 32)) rfl (fun hc_14 => ?_) (fun hc_14 => ?_)
      · skip
        have hc_14 := of_decide_eq_true hc_14
        refine T_skip ?_
        refine T_seq ?_
        refine T_block ?_
        refine T_seq ?_
        refine T_reg hF rfl ?_
        refine L_op rfl (op_pr (pr_move rfl rfl) rfl rfl ?_)
        refine L_op rfl (op_pr (pr_assign rfl rfl) rfl rfl ?_)
        refine L_nil ?_
        refine T_re [(2, (b8 lo_)), (3, (.int .i64 y)), (9, (.slice (some ⟨g1, 0, none⟩) n n)), (11, (.pointer (some ⟨g13, 0, none⟩))), (12, (.int .i64 ((i : Nat) : Int))), (44, (.int .i64 ((i : Nat) : Int)))] (sc rfl (sc rfl (sc rfl (sc rfl (sc rfl (sc rfl sn)))))) ?_
        refine T_he [0, 1] [.blk g13 22 (ks.map b8), .blk g1 5 (bs.map b8)] ⟨by decide, rfl⟩ ?_
        refine T_reg hF rfl ?_
        refine L_op rfl (op_pr (pr_move rfl rfl) rfl rfl ?_)
        refine L_op rfl (op_pr (pr_ixa (j := i) (m' := i) sd (by omega) Try.underlying22 (z := 1) (by kernel_rfl) rfl rfl rfl) rfl rfl ?_)
        refine L_op rfl (op_store (vs := [(b8 (255#8))]) (cs' := ((List.set ks i (255#8)).map b8)) 0 rfl rfl (by kernel_rfl) (one_one rfl) (by have : i < (ks).length := sd; simp only [List.length_map, List.length_singleton]; omega) (splice_map (f := b8) sd) rfl rfl rfl rfl ?_)
        refine L_nil ?_
        refine T_re [(2, (b8 lo_)), (3, (.int .i64 y)), (9, (.slice (some ⟨g1, 0, none⟩) n n)), (11, (.pointer (some ⟨g13, 0, none⟩))), (44, (.int .i64 ((i : Nat) : Int)))] (sc rfl (sc rfl (sc rfl (sc rfl (sc rfl sn))))) ?_
        refine T_he [0, 1] [.blk g13 22 ((List.set ks i (255#8)).map b8), .blk g1 5 (bs.map b8)] ⟨by decide, rfl⟩ ?_
        refine T_reg hF rfl ?_
        refine L_op rfl (op_pr (pr_add (na_i64 (a := i) (b := 1) sd) rfl rfl rfl) rfl rfl ?_)
        refine L_op rfl (op_pr (pr_move rfl rfl) rfl rfl ?_)
        refine L_nil ?_
        refine T_re [(2, (b8 lo_)), (3, (.int .i64 y)), (9, (.slice (some ⟨g1, 0, none⟩) n n)), (11, (.pointer (some ⟨g13, 0, none⟩))), (44, (.int .i64 ((i + 1 : Nat) : Int)))] (sc rfl (sc rfl (sc rfl (sc rfl (sc rfl sn))))) ?_
        refine T_he [0, 1] [.blk g13 22 ((List.set ks i (255#8)).map b8), .blk g1 5 (bs.map b8)] ⟨by decide, rfl⟩ ?_
        exact T_again (i + 1, (List.set ks i (255#8))) (by simp; omega) (by first | trivial | ((try dsimp only); first | omega | (refine ⟨?_, ?_⟩ <;> omega) | (refine ⟨?_, ?_, ?_⟩ <;> omega) | (simp; done) | (simp; omega))) (sc rfl (sc rfl (sc rfl (sc rfl (sc rfl sn))))) [0, 1] ⟨by decide, rfl⟩
      · skip
        have hc_14 := of_decide_eq_false hc_14
        refine T_exit rfl ?_
        obtain rfl : 32 = i := by omega
        refine T_seq ?_
        refine T_reg hF rfl ?_
        refine L_op rfl (op_pr (pr_move rfl rfl) rfl rfl ?_)
        refine L_op rfl (op_pr (pr_cv (zc_u64 y) Try.underlying3 Try.underlying33 rfl rfl) rfl rfl ?_)
        refine L_op rfl (op_pr (pr_rem (a := (BitVec.ofInt 64 y).toNat) (b := 32) sd rfl rfl rfl) rfl rfl ?_)
        refine L_op rfl (op_pr (pr_cv (ni_i64 (a := ((BitVec.ofInt 64 y).toNat) % 32) sd) Try.underlying33 Try.underlying3 rfl rfl) rfl rfl ?_)
        refine L_op rfl (op_pr (pr_move rfl rfl) rfl rfl ?_)
        refine L_op rfl (op_pr (pr_ixa (j := ((BitVec.ofInt 64 y).toNat) % 32) (m' := ((BitVec.ofInt 64 y).toNat) % 32) sd (by omega) Try.underlying22 (z := 1) (by kernel_rfl) rfl rfl rfl) rfl rfl ?_)
        refine L_op rfl (op_store (vs := [(b8 lo_)]) (cs' := ((List.set ks (((BitVec.ofInt 64 y).toNat) % 32) lo_).map b8)) 0 rfl rfl (by kernel_rfl) (one_one rfl) (by have : ((BitVec.ofInt 64 y).toNat) % 32 < (ks).length := sd; simp only [List.length_map, List.length_singleton]; omega) (splice_map (f := b8) sd) rfl rfl rfl rfl ?_)
        refine L_nil ?_
        refine T_re [(9, (.slice (some ⟨g1, 0, none⟩) n n)), (11, (.pointer (some ⟨g13, 0, none⟩)))] (sc rfl (sc rfl sn)) ?_
        refine T_he [0, 1] [.blk g13 22 ((List.set ks (((BitVec.ofInt 64 y).toNat) % 32) lo_).map b8), .blk g1 5 (bs.map b8)] ⟨by decide, rfl⟩ ?_
        refine T_seq ?_
        refine T_regD [.blk g13 22 ((List.set ks (((BitVec.ofInt 64 y).toNat) % 32) lo_).map b8), .blk g1 5 (bs.map b8)] 12 12 #[false, false, false, false, false, false, false, false, false, false, false, false] hF (by kernel_rfl) (by kernel_rfl) ?_
        refine D_one 0 _ rfl (by kernel_rfl) rfl (op_call0 (vs := []) (cap := []) (fun w hw => awake6_f  w (hok_nil w) ) (enters_of Try.func16 (by kernel_rfl) rfl) rfl rfl rfl rfl rfl (fun t15 q16 => ?_))
        refine D_on [0, 1] rfl ?_
        refine D_pure (i := 1) [0, 1] rfl (by kernel_rfl) rfl (pr_move rfl rfl) (.inr rfl) rfl rfl ?_
        refine D_pure (i := 3) [0, 1] rfl (by kernel_rfl) rfl (pr_move rfl rfl) (.inr rfl) rfl rfl ?_
        refine D_pure (i := 7) [0, 1] rfl (by kernel_rfl) rfl (pr_move rfl rfl) (.inr rfl) rfl rfl ?_
        refine D_take (i := 2) [0, 1] rfl (by kernel_rfl) rfl (ld_agg (ds := ((List.set ks (((BitVec.ofInt 64 y).toNat) % 32) lo_).map b8)) 0 rfl agg_all Try.underlying22 rfl (by rw [show (((List.set ks (((BitVec.ofInt 64 y).toNat) % 32) lo_).map b8)).length = 32 from sd]; kernel_rfl) rfl rfl) rfl rfl rfl ?_
        refine D_take (i := 6) [0, 1] rfl (by kernel_rfl) rfl (ld_agg (ds := ((List.set ks (((BitVec.ofInt 64 y).toNat) % 32) lo_).map b8)) 0 rfl agg_all Try.underlying22 rfl (by rw [show (((List.set ks (((BitVec.ofInt 64 y).toNat) % 32) lo_).map b8)).length = 32 from sd]; kernel_rfl) rfl rfl) rfl rfl rfl ?_
        refine D_one 4 _ rfl (by kernel_rfl) rfl (op_bslice (e := 25) (zs := [(.slice (some ⟨g1, 0, none⟩) n n)]) (qs := [(0, (.slice (some ⟨g1, 0, none⟩) n n))]) (fun _ => by kernel_rfl) rfl rfl rfl rfl (fun g17 => ?_))
        refine D_on [1, 2] rfl ?_
        refine D_one 5 _ rfl (by kernel_rfl) rfl (op_call0 (vs := [(.agg ((List.set ks (((BitVec.ofInt 64 y).toNat) % 32) lo_).map b8).toArray), (.slice (some ⟨g17, 0, none⟩) 1 1)]) (cap := []) (fun w hw => ptag_f (List.set ks (((BitVec.ofInt 64 y).toNat) % 32) lo_) [(Pt.mk (some ⟨g1, 0, none⟩) n n bs)] (some ⟨g17, 0, none⟩) 1 1 w (hok_cons ((src_full (z := 1) 0 rfl rfl sd sd) w hw) (hok_cons (all_cons ((src_full (z := 1) 2 rfl sd sd sd) w hw) (all_nil w)) (hok_nil w))) sd sd sd (by first | assumption | omega | (simp only [c6_cons, c6_nil, List.append_nil, List.length_append]; omega) | (simp [c6_cons, c6_nil]; done) | (simp [c6_cons, c6_nil]; omega))) (enters_of Try.func18 (by kernel_rfl) rfl) rfl rfl rfl rfl rfl (fun t18 q19 => ?_))
        refine T_slot 61 (.agg ((ptag (List.set ks (((BitVec.ofInt 64 y).toNat) % 32) lo_) (catp [(Pt.mk (some ⟨g1, 0, none⟩) n n bs)])).map b8).toArray) (.agg ((ptag (List.set ks (((BitVec.ofInt 64 y).toNat) % 32) lo_) bs).map b8).toArray) rfl (by rw [c6_one]) ?_
        have hpl := ptag_len (List.set ks (((BitVec.ofInt 64 y).toNat) % 32) lo_) bs
        refine D_on [1, 2] rfl ?_
        refine D_one 8 _ rfl (by kernel_rfl) rfl (op_call0 (vs := [(.agg ((List.set ks (((BitVec.ofInt 64 y).toNat) % 32) lo_).map b8).toArray), (.slice (some ⟨g1, 0, none⟩) n n)]) (cap := []) (fun w hw => rtag_f (List.set ks (((BitVec.ofInt 64 y).toNat) % 32) lo_) bs (some ⟨g1, 0, none⟩) n n w (hok_cons ((src_full (z := 1) 2 rfl sd sd sd) w hw) (hok_nil w)) sd (by first | assumption | omega | (simp; done) | (simp; omega)) sd) (enters_of Try.func19 (by kernel_rfl) rfl) rfl rfl rfl rfl rfl (fun t20 q21 => ?_))
        refine D_on [1, 2] rfl ?_
        refine D_pure (i := 9) [1, 2] rfl (by kernel_rfl) rfl (pr_eqagg (bo := .eql) (c := ((ptag (List.set ks (((BitVec.ofInt 64 y).toNat) % 32) lo_) bs) == (ptag (List.set ks (((BitVec.ofInt 64 y).toNat) % 32) lo_) bs))) (r := ((ptag (List.set ks (((BitVec.ofInt 64 y).toNat) % 32) lo_) bs) == (ptag (List.set ks (((BitVec.ofInt 64 y).toNat) % 32) lo_) bs))) (eqb8 (xs := (ptag (List.set ks (((BitVec.ofInt 64 y).toNat) % 32) lo_) bs)) (ys := (ptag (List.set ks (((BitVec.ofInt 64 y).toNat) % 32) lo_) bs)) Try.underlying27 Try.underlying5 (by kernel_rfl) sd sd) (by kernel_rfl) rfl rfl rfl rfl rfl) (.inr rfl) rfl rfl ?_
        refine D_pure (i := 10) [1, 2] rfl (by kernel_rfl) rfl (pr_pick_t rfl rfl rfl) (.inr rfl) rfl rfl ?_
        refine D_pure (i := 11) [1, 2] rfl (by kernel_rfl) rfl (pr_assign rfl rfl) (.inr rfl) rfl rfl ?_
        refine D_done (by kernel_rfl) ?_
        refine T_re [(8, (.bool ((ptag (List.set ks (((BitVec.ofInt 64 y).toNat) % 32) lo_) bs) == (ptag (List.set ks (((BitVec.ofInt 64 y).toNat) % 32) lo_) bs))))] (sc rfl sn) ?_
        refine T_he [0, 1, 2] [.blk g17 25 [(.slice (some ⟨g1, 0, none⟩) n n)], .blk g13 22 ((List.set ks (((BitVec.ofInt 64 y).toNat) % 32) lo_).map b8), .blk g1 5 (bs.map b8)] ⟨by decide, rfl⟩ ?_
        refine T_ret ?_
        refine T_slot 8 (.bool ((ptag (List.set ks (((BitVec.ofInt 64 y).toNat) % 32) lo_) bs) == (ptag (List.set ks (((BitVec.ofInt 64 y).toNat) % 32) lo_) bs))) (.bool true) rfl (by simp) ?_
        exact T_fin () (by first | trivial | omega | (simp; done)) (res1 rfl rfl) [] ⟨by decide, rfl⟩ rfl
end Go.Proofs.Ytemjinkdfjoicaa
