/- The statements of layer 6 about single pieces, walked by facts. -/
import Derived.Test.YtemjinkdfjoicaaGLPo
import Derived.Test.YtemjinkdfjoicaaProg
import Derived.Test.YtemjinkdfjoicaaFwU
namespace Go.Proofs.Ytemjinkdfjoicaa
set_option linter.unusedVariables false
set_option linter.unusedSimpArgs false
set_option linter.unnecessarySimpa false
open Go.RowKit Bv Fw

set_option maxHeartbeats 4000000 in
theorem polyOne_f (half : List (BitVec 8)) (b : List (BitVec 8)) (w : World) (hO : HOK [] w) (hh : half.length = 16) (hb : b.length = 16) : Calls Try.prog 5 [(.agg (half.map b8).toArray), (.agg (b.map b8).toArray)].toArray w (Ret (T := Unit) [] w (fun _ => True) (fun _ => (.bool true)) (fun _ => [])) := by
  have hol := fun i h => onek_len 1#8 half i hh h
  have hpl := ptag_len (onek 1#8 half 16) b
  have hp0 := ptag_len (onek 1#8 half 16) []
  have hdl := dig_len 8 16 (vw half + 1 * vw b)
  have hF : Wid Fence.wide := wid_wide
  refine enter (c := _) Try.func5 rfl [] [(.agg (half.map b8).toArray), (.agg (b.map b8).toArray)] [] (by rw [Try.ntmps5]; rfl) (own_rds hO rfl) ?_
  rw [Try.ntmps5]
  refine T_re [(0, (.agg (half.map b8).toArray)), (1, (.agg (b.map b8).toArray))] (sc rfl (sc rfl sn)) ?_
  refine T_he [] [] ⟨by decide, rfl⟩ ?_
  refine T_seq ?_
  refine T_reg hF rfl ?_
  refine L_op rfl (op_box (zs := (half.map b8)) rfl rfl rfl rfl rfl (fun g1 => ?_))
  refine L_op rfl (op_box (zs := (b.map b8)) rfl rfl rfl rfl rfl (fun g2 => ?_))
  refine L_op rfl (op_pr (pr_assign rfl rfl) rfl rfl ?_)
  refine L_nil ?_
  refine T_re [(2, (.pointer (some ⟨g1, 0, none⟩))), (3, (.pointer (some ⟨g2, 0, none⟩)))] (sc rfl (sc rfl sn)) ?_
  refine T_he [0, 1] [.blk g2 27 (b.map b8), .blk g1 27 (half.map b8)] ⟨by decide, rfl⟩ ?_
  refine T_seq ?_
  refine T_reg hF rfl ?_
  refine L_op rfl (op_alloc (z := .agg ((List.replicate 32 0#8).map b8).toArray) (zs := ((List.replicate 32 0#8).map b8)) (by kernel_rfl) rfl rfl rfl rfl (fun g3 => ?_))
  refine L_nil ?_
  refine T_re [(2, (.pointer (some ⟨g1, 0, none⟩))), (3, (.pointer (some ⟨g2, 0, none⟩))), (5, (.pointer (some ⟨g3, 0, none⟩)))] (sc rfl (sc rfl (sc rfl sn))) ?_
  refine T_he [0, 1, 2] [.blk g3 22 ((List.replicate 32 0#8).map b8), .blk g2 27 (b.map b8), .blk g1 27 (half.map b8)] ⟨by decide, rfl⟩ ?_
  refine T_seq ?_
  refine T_reg hF rfl ?_
  refine L_op rfl (op_pr (pr_ixa (j := 0) (m' := 0) sd (by omega) Try.underlying22 (z := 1) (by kernel_rfl) rfl rfl rfl) rfl rfl ?_)
  refine L_op rfl (op_store (vs := [(b8 (1#8))]) (cs' := ((List.set (List.replicate 32 0#8) 0 (1#8)).map b8)) 0 rfl rfl (by kernel_rfl) (one_one rfl) (by have : 0 < ((List.replicate 32 0#8)).length := sd; simp only [List.length_map, List.length_singleton]; omega) (splice_map (f := b8) sd) rfl rfl rfl rfl ?_)
  refine L_nil ?_
  refine T_re [(2, (.pointer (some ⟨g1, 0, none⟩))), (3, (.pointer (some ⟨g2, 0, none⟩))), (5, (.pointer (some ⟨g3, 0, none⟩)))] (sc rfl (sc rfl (sc rfl sn))) ?_
  refine T_he [0, 1, 2] [.blk g3 22 ((List.set (List.replicate 32 0#8) 0 (1#8)).map b8), .blk g2 27 (b.map b8), .blk g1 27 (half.map b8)] ⟨by decide, rfl⟩ ?_
  refine T_seq ?_
  refine T_seq ?_
  refine T_reg hF rfl ?_
  refine L_op rfl (op_pr (pr_assign rfl rfl) rfl rfl ?_)
  refine L_nil ?_
  refine T_re [(2, (.pointer (some ⟨g1, 0, none⟩))), (3, (.pointer (some ⟨g2, 0, none⟩))), (5, (.pointer (some ⟨g3, 0, none⟩))), (6, (.int .i64 ((0 : Nat) : Int)))] (sc rfl (sc rfl (sc rfl (sc rfl sn)))) ?_
  refine T_he [0, 1, 2] [.blk g3 22 ((List.set (List.replicate 32 0#8) 0 (1#8)).map b8), .blk g2 27 (b.map b8), .blk g1 27 (half.map b8)] ⟨by decide, rfl⟩ ?_
  refine T_block ?_
  refine T_as 0 (.blk g3 22 ((List.set (List.replicate 32 0#8) 0 (1#8)).map b8)) (.blk g3 22 ((onek 1#8 half 0).map b8)) rfl (by rw [onek_zero]) ?_
  refine T_loop (T := Nat) (fun i => i ≤ 16) (fun i => [(2, (.pointer (some ⟨g1, 0, none⟩))), (3, (.pointer (some ⟨g2, 0, none⟩))), (5, (.pointer (some ⟨g3, 0, none⟩))), (6, (.int .i64 ((i : Nat) : Int)))]) (fun i => [.blk g3 22 ((onek 1#8 half i).map b8), .blk g2 27 (b.map b8), .blk g1 27 (half.map b8)]) (fun i => 16 - i) 0 (by first | trivial | ((try dsimp only); first | omega | (refine ⟨?_, ?_⟩ <;> omega) | (refine ⟨?_, ?_, ?_⟩ <;> omega) | (simp; done) | (simp; omega))) (sc rfl (sc rfl (sc rfl (sc rfl sn)))) [0, 1, 2] ⟨by decide, rfl⟩ ?_
  rintro i hp
  have hp : i ≤ 16 := hp
  have hoi := hol i hp
  refine T_re [(2, (.pointer (some ⟨g1, 0, none⟩))), (3, (.pointer (some ⟨g2, 0, none⟩))), (5, (.pointer (some ⟨g3, 0, none⟩))), (6, (.int .i64 ((i : Nat) : Int)))] (sc rfl (sc rfl (sc rfl (sc rfl sn)))) ?_
  refine T_he [0, 1, 2] [.blk g3 22 ((onek 1#8 half i).map b8), .blk g2 27 (b.map b8), .blk g1 27 (half.map b8)] ⟨by decide, rfl⟩ ?_
  refine T_seq ?_
  refine T_seq ?_
  refine T_reg hF rfl ?_
  refine L_op rfl (op_pr (pr_move rfl rfl) rfl rfl ?_)
  refine L_op rfl (op_pr (pr_cmp (bo := .lss) (nc_lt (a := i) (b := 16)) rfl rfl rfl rfl) rfl rfl ?_)
  refine L_nil ?_
  refine T_re [(2, (.pointer (some ⟨g1, 0, none⟩))), (3, (.pointer (some ⟨g2, 0, none⟩))), (5, (.pointer (some ⟨g3, 0, none⟩))), (6, (.int .i64 ((i : Nat) : Int))), (13, (.bool (decide (i < 16))))] (sc rfl (sc rfl (sc rfl (sc rfl (sc rfl sn))))) ?_
  refine T_he [0, 1, 2] [.blk g3 22 ((onek 1#8 half i).map b8), .blk g2 27 (b.map b8), .blk g1 27 (half.map b8)] ⟨by decide, rfl⟩ ?_
  refine T_cond (decide (i < 16)) rfl (fun hc_4 => ?_) (fun hc_4 => ?_)
  · skip
    have hc_4 := of_decide_eq_true hc_4
    refine T_skip ?_
    refine T_seq ?_
    refine T_block ?_
    refine T_reg hF rfl ?_
    refine L_op rfl (op_pr (pr_move rfl rfl) rfl rfl ?_)
    refine L_op rfl (op_pr (pr_add (na_i64 (a := 16) (b := i) sd) rfl rfl rfl) rfl rfl ?_)
    refine L_op rfl (op_pr (pr_move rfl rfl) rfl rfl ?_)
    refine L_op rfl (op_pr (pr_ixa (j := i) (m' := i) sd (by omega) Try.underlying27 (z := 1) (by kernel_rfl) rfl rfl rfl) rfl rfl ?_)
    refine L_op rfl (op_ld (ld_blk 2 rfl (get8 sd) Try.underlying5 rfl rfl rfl) rfl rfl ?_)
    refine L_op rfl (op_pr (pr_ixa (j := 16 + i) (m' := 16 + i) sd (by omega) Try.underlying22 (z := 1) (by kernel_rfl) rfl rfl rfl) rfl rfl ?_)
    refine L_op rfl (op_store (vs := [(b8 (ath half i))]) (cs' := ((List.set (onek 1#8 half i) (16 + i) (ath half i)).map b8)) 0 rfl rfl (by kernel_rfl) (one_one rfl) (by have : 16 + i < ((onek 1#8 half i)).length := sd; simp only [List.length_map, List.length_singleton]; omega) (splice_map (f := b8) sd) rfl rfl rfl rfl ?_)
    refine L_nil ?_
    refine T_re [(2, (.pointer (some ⟨g1, 0, none⟩))), (3, (.pointer (some ⟨g2, 0, none⟩))), (5, (.pointer (some ⟨g3, 0, none⟩))), (6, (.int .i64 ((i : Nat) : Int)))] (sc rfl (sc rfl (sc rfl (sc rfl sn)))) ?_
    refine T_he [0, 1, 2] [.blk g3 22 ((List.set (onek 1#8 half i) (16 + i) (ath half i)).map b8), .blk g2 27 (b.map b8), .blk g1 27 (half.map b8)] ⟨by decide, rfl⟩ ?_
    refine T_reg hF rfl ?_
    refine L_op rfl (op_pr (pr_move rfl rfl) rfl rfl ?_)
    refine L_op rfl (op_pr (pr_add (na_i64 (a := i) (b := 1) sd) rfl rfl rfl) rfl rfl ?_)
    refine L_op rfl (op_pr (pr_assign rfl rfl) rfl rfl ?_)
    refine L_nil ?_
    refine T_re [(2, (.pointer (some ⟨g1, 0, none⟩))), (3, (.pointer (some ⟨g2, 0, none⟩))), (5, (.pointer (some ⟨g3, 0, none⟩))), (6, (.int .i64 ((i + 1 : Nat) : Int)))] (sc rfl (sc rfl (sc rfl (sc rfl sn)))) ?_
    refine T_he [0, 1, 2] [.blk g3 22 ((List.set (onek 1#8 half i) (16 + i) (ath half i)).map b8), .blk g2 27 (b.map b8), .blk g1 27 (half.map b8)] ⟨by decide, rfl⟩ ?_
    refine T_as 0 (.blk g3 22 ((List.set (onek 1#8 half i) (16 + i) (ath half i)).map b8)) (.blk g3 22 ((onek 1#8 half (i + 1)).map b8)) rfl (by rw [onek_set _ _ _ hh (by omega)]) ?_
    exact T_again (i + 1) (by first | trivial | ((try dsimp only); first | omega | (refine ⟨?_, ?_⟩ <;> omega) | (refine ⟨?_, ?_, ?_⟩ <;> omega) | (simp; done) | (simp; omega))) (by first | trivial | ((try dsimp only); first | omega | (refine ⟨?_, ?_⟩ <;> omega) | (refine ⟨?_, ?_, ?_⟩ <;> omega) | (simp; done) | (simp; omega))) (sc rfl (sc rfl (sc rfl (sc rfl sn)))) [0, 1, 2] ⟨by decide, rfl⟩
  · skip
    have hc_4 := of_decide_eq_false hc_4
    refine T_exit rfl ?_
    obtain rfl : 16 = i := by omega
    refine T_seq ?_
    refine T_reg hF rfl ?_
    refine L_op rfl (op_ld (ld_agg (ds := ((onek 1#8 half 16).map b8)) 0 rfl agg_all Try.underlying22 rfl (by rw [show (((onek 1#8 half 16).map b8)).length = 32 from sd]; kernel_rfl) rfl rfl) rfl rfl ?_)
    refine L_op rfl (op_call0 (vs := [(.agg ((onek 1#8 half 16).map b8).toArray), (.slice none 0 0)]) (cap := []) (fun w hw => ptag_f (onek 1#8 half 16) [] none 0 0 w (hok_cons ((src_nil 1) w hw) (hok_cons (all_nil w) (hok_nil w))) sd sd sd (by first | assumption | omega | (simp only [c6_cons, c6_nil, List.append_nil, List.length_append]; omega) | (simp [c6_cons, c6_nil]; done) | (simp [c6_cons, c6_nil]; omega))) (enters_of Try.func18 (by kernel_rfl) rfl) rfl rfl rfl rfl rfl (fun t5 q6 => ?_))
    refine T_slot 23 (.agg ((ptag (onek 1#8 half 16) (catp [])).map b8).toArray) (.agg (half.map b8).toArray) rfl (by rw [show (catp []) = [] from rfl, ptag_nil _ (hol 16 (by omega)), onek_half _ _ hh]) ?_
    refine L_op rfl (op_alloc (z := .agg ((List.replicate 16 0#8).map b8).toArray) (zs := ((List.replicate 16 0#8).map b8)) (by kernel_rfl) rfl rfl rfl rfl (fun g7 => ?_))
    refine L_op rfl (op_store (vs := (half.map b8)) (cs' := (half.map b8)) 0 rfl rfl (by rw [show ((half.map b8)).length = 16 from sd]; kernel_rfl) (all8_one _) (by have h1 : (((List.replicate 16 0#8).map b8)).length = 16 := (by kernel_rfl); have h2 : ((half.map b8)).length = 16 := sd; omega) (splice_all (Eq.trans (b := 16) (by kernel_rfl) (Eq.symm sd))) rfl rfl rfl rfl ?_)
    refine L_nil ?_
    refine T_re [(2, (.pointer (some ⟨g1, 0, none⟩))), (3, (.pointer (some ⟨g2, 0, none⟩))), (5, (.pointer (some ⟨g3, 0, none⟩))), (7, (.pointer (some ⟨g7, 0, none⟩)))] (sc rfl (sc rfl (sc rfl (sc rfl sn)))) ?_
    refine T_he [0, 1, 2, 3] [.blk g7 27 (half.map b8), .blk g3 22 ((onek 1#8 half 16).map b8), .blk g2 27 (b.map b8), .blk g1 27 (half.map b8)] ⟨by decide, rfl⟩ ?_
    refine T_seq ?_
    refine T_regD [.blk g7 27 (half.map b8), .blk g3 22 ((onek 1#8 half 16).map b8), .blk g2 27 (b.map b8), .blk g1 27 (half.map b8)] 5 6 #[false, false, false, false, false, false] hF (by kernel_rfl) (by kernel_rfl) ?_
    refine D_pure (i := 1) [0, 1, 2, 3] rfl (by kernel_rfl) rfl (pr_sla (l := 0) (u := 16) (m := 0) sd sd sd rfl Try.underlying27 (z := 1) (by kernel_rfl) rfl rfl rfl rfl) (.inr rfl) rfl rfl ?_
    refine D_take (i := 0) [0, 1, 2, 3] rfl (by kernel_rfl) rfl (ld_agg (ds := ((onek 1#8 half 16).map b8)) 1 rfl agg_all Try.underlying22 rfl (by rw [show (((onek 1#8 half 16).map b8)).length = 32 from sd]; kernel_rfl) rfl rfl) rfl rfl rfl ?_
    refine D_join (T := Nat) (fun _ => True) (fun g11 => [(2, (.pointer (some ⟨g1, 0, none⟩))), (3, (.pointer (some ⟨g2, 0, none⟩))), (7, (.pointer (some ⟨g7, 0, none⟩))), (8, (.pointer (some ⟨g11, 0, none⟩)))]) (fun g11 => [.blk g11 27 ((dig 8 16 (vw half + 1 * vw b)).map b8), .blk g7 27 (half.map b8), .blk g3 22 ((onek 1#8 half 16).map b8), .blk g2 27 (b.map b8), .blk g1 27 (half.map b8)]) ?_ ?_
    · skip
      refine D_all [2, 4] (by kernel_rfl) (by simp) ⟨⟨_, rfl, rfl, ?_⟩, ⟨_, rfl, rfl, ?_⟩, trivial⟩
      · skip
        refine id (op_bslice (e := 25) (zs := [(.slice (some ⟨g2, 0, none⟩) 16 16)]) (qs := [(0, (.slice (some ⟨g2, 0, none⟩) 16 16))]) (fun _ => by kernel_rfl) rfl rfl rfl rfl (fun g12 => ?_))
        refine D_on [1, 2, 3, 4] rfl ?_
        refine D_all [3, 4] (by kernel_rfl) (by simp) ⟨⟨_, rfl, rfl, ?_⟩, ⟨_, rfl, rfl, ?_⟩, trivial⟩
        · skip
          refine id (op_call0 (vs := [(.agg ((onek 1#8 half 16).map b8).toArray), (.slice (some ⟨g12, 0, none⟩) 1 1)]) (cap := []) (fun w hw => ptag_f (onek 1#8 half 16) [(Pt.mk (some ⟨g2, 0, none⟩) 16 16 b)] (some ⟨g12, 0, none⟩) 1 1 w (hok_cons ((src_full (z := 1) 0 rfl rfl sd sd) w hw) (hok_cons (all_cons ((src_full (z := 1) 3 rfl sd sd sd) w hw) (all_nil w)) (hok_nil w))) sd sd sd (by first | assumption | omega | (simp only [c6_cons, c6_nil, List.append_nil, List.length_append]; omega) | (simp [c6_cons, c6_nil]; done) | (simp [c6_cons, c6_nil]; omega))) (enters_of Try.func18 (by kernel_rfl) rfl) rfl rfl rfl rfl rfl (fun t13 q14 => ?_))
          refine T_slot 27 (.agg ((ptag (onek 1#8 half 16) (catp [(Pt.mk (some ⟨g2, 0, none⟩) 16 16 b)])).map b8).toArray) (.agg ((dig 8 16 (vw half + 1 * vw b)).map b8).toArray) rfl (by rw [c6_one, ptag_one half b hh hb]) ?_
          refine D_on [1, 2, 3, 4] rfl ?_
          refine D_one 4 _ rfl (by kernel_rfl) rfl (op_alloc (z := .agg ((List.replicate 16 0#8).map b8).toArray) (zs := ((List.replicate 16 0#8).map b8)) (by kernel_rfl) rfl rfl rfl rfl (fun g15 => ?_))
          refine D_on [2, 3, 4, 5] rfl ?_
          refine D_one 5 _ rfl (by kernel_rfl) rfl (op_store (vs := ((dig 8 16 (vw half + 1 * vw b)).map b8)) (cs' := ((dig 8 16 (vw half + 1 * vw b)).map b8)) 0 rfl rfl (by rw [show (((dig 8 16 (vw half + 1 * vw b)).map b8)).length = 16 from sd]; kernel_rfl) (all8_one _) (by have h1 : (((List.replicate 16 0#8).map b8)).length = 16 := (by kernel_rfl); have h2 : (((dig 8 16 (vw half + 1 * vw b)).map b8)).length = 16 := sd; omega) (splice_all (Eq.trans (b := 16) (by kernel_rfl) (Eq.symm sd))) rfl rfl rfl rfl ?_)
          refine D_past (by kernel_rfl) ?_
          refine D_done (by kernel_rfl) ?_
          exact T_meet g15 trivial (sc rfl (sc rfl (sc rfl (sc rfl sn)))) [0, 2, 3, 4, 5] ⟨by decide, rfl⟩
        · skip
          refine id (op_alloc (z := .agg ((List.replicate 16 0#8).map b8).toArray) (zs := ((List.replicate 16 0#8).map b8)) (by kernel_rfl) rfl rfl rfl rfl (fun g16 => ?_))
          refine D_on [2, 3, 4, 5] rfl ?_
          refine D_one 3 _ rfl (by kernel_rfl) rfl (op_call0 (vs := [(.agg ((onek 1#8 half 16).map b8).toArray), (.slice (some ⟨g12, 0, none⟩) 1 1)]) (cap := []) (fun w hw => ptag_f (onek 1#8 half 16) [(Pt.mk (some ⟨g2, 0, none⟩) 16 16 b)] (some ⟨g12, 0, none⟩) 1 1 w (hok_cons ((src_full (z := 1) 1 rfl rfl sd sd) w hw) (hok_cons (all_cons ((src_full (z := 1) 4 rfl sd sd sd) w hw) (all_nil w)) (hok_nil w))) sd sd sd (by first | assumption | omega | (simp only [c6_cons, c6_nil, List.append_nil, List.length_append]; omega) | (simp [c6_cons, c6_nil]; done) | (simp [c6_cons, c6_nil]; omega))) (enters_of Try.func18 (by kernel_rfl) rfl) rfl rfl rfl rfl rfl (fun t17 q18 => ?_))
          refine T_slot 27 (.agg ((ptag (onek 1#8 half 16) (catp [(Pt.mk (some ⟨g2, 0, none⟩) 16 16 b)])).map b8).toArray) (.agg ((dig 8 16 (vw half + 1 * vw b)).map b8).toArray) rfl (by rw [c6_one, ptag_one half b hh hb]) ?_
          refine D_on [2, 3, 4, 5] rfl ?_
          refine D_one 5 _ rfl (by kernel_rfl) rfl (op_store (vs := ((dig 8 16 (vw half + 1 * vw b)).map b8)) (cs' := ((dig 8 16 (vw half + 1 * vw b)).map b8)) 0 rfl rfl (by rw [show (((dig 8 16 (vw half + 1 * vw b)).map b8)).length = 16 from sd]; kernel_rfl) (all8_one _) (by have h1 : (((List.replicate 16 0#8).map b8)).length = 16 := (by kernel_rfl); have h2 : (((dig 8 16 (vw half + 1 * vw b)).map b8)).length = 16 := sd; omega) (splice_all (Eq.trans (b := 16) (by kernel_rfl) (Eq.symm sd))) rfl rfl rfl rfl ?_)
          refine D_past (by kernel_rfl) ?_
          refine D_done (by kernel_rfl) ?_
          exact T_meet g16 trivial (sc rfl (sc rfl (sc rfl (sc rfl sn)))) [0, 2, 3, 4, 5] ⟨by decide, rfl⟩
      · skip
        refine id (op_alloc (z := .agg ((List.replicate 16 0#8).map b8).toArray) (zs := ((List.replicate 16 0#8).map b8)) (by kernel_rfl) rfl rfl rfl rfl (fun g19 => ?_))
        refine D_on [1, 2, 3, 4] rfl ?_
        refine D_one 2 _ rfl (by kernel_rfl) rfl (op_bslice (e := 25) (zs := [(.slice (some ⟨g2, 0, none⟩) 16 16)]) (qs := [(0, (.slice (some ⟨g2, 0, none⟩) 16 16))]) (fun _ => by kernel_rfl) rfl rfl rfl rfl (fun g20 => ?_))
        refine D_on [2, 3, 4, 5] rfl ?_
        refine D_one 3 _ rfl (by kernel_rfl) rfl (op_call0 (vs := [(.agg ((onek 1#8 half 16).map b8).toArray), (.slice (some ⟨g20, 0, none⟩) 1 1)]) (cap := []) (fun w hw => ptag_f (onek 1#8 half 16) [(Pt.mk (some ⟨g2, 0, none⟩) 16 16 b)] (some ⟨g20, 0, none⟩) 1 1 w (hok_cons ((src_full (z := 1) 0 rfl rfl sd sd) w hw) (hok_cons (all_cons ((src_full (z := 1) 4 rfl sd sd sd) w hw) (all_nil w)) (hok_nil w))) sd sd sd (by first | assumption | omega | (simp only [c6_cons, c6_nil, List.append_nil, List.length_append]; omega) | (simp [c6_cons, c6_nil]; done) | (simp [c6_cons, c6_nil]; omega))) (enters_of Try.func18 (by kernel_rfl) rfl) rfl rfl rfl rfl rfl (fun t21 q22 => ?_))
        refine T_slot 27 (.agg ((ptag (onek 1#8 half 16) (catp [(Pt.mk (some ⟨g2, 0, none⟩) 16 16 b)])).map b8).toArray) (.agg ((dig 8 16 (vw half + 1 * vw b)).map b8).toArray) rfl (by rw [c6_one, ptag_one half b hh hb]) ?_
        refine D_on [2, 3, 4, 5] rfl ?_
        refine D_one 5 _ rfl (by kernel_rfl) rfl (op_store (vs := ((dig 8 16 (vw half + 1 * vw b)).map b8)) (cs' := ((dig 8 16 (vw half + 1 * vw b)).map b8)) 1 rfl rfl (by rw [show (((dig 8 16 (vw half + 1 * vw b)).map b8)).length = 16 from sd]; kernel_rfl) (all8_one _) (by have h1 : (((List.replicate 16 0#8).map b8)).length = 16 := (by kernel_rfl); have h2 : (((dig 8 16 (vw half + 1 * vw b)).map b8)).length = 16 := sd; omega) (splice_all (Eq.trans (b := 16) (by kernel_rfl) (Eq.symm sd))) rfl rfl rfl rfl ?_)
        refine D_past (by kernel_rfl) ?_
        refine D_done (by kernel_rfl) ?_
        exact T_meet g19 trivial (sc rfl (sc rfl (sc rfl (sc rfl sn)))) [0, 2, 3, 4, 5] ⟨by decide, rfl⟩
    · rintro g11 -
      refine T_re [(2, (.pointer (some ⟨g1, 0, none⟩))), (3, (.pointer (some ⟨g2, 0, none⟩))), (7, (.pointer (some ⟨g7, 0, none⟩))), (8, (.pointer (some ⟨g11, 0, none⟩)))] (sc rfl (sc rfl (sc rfl (sc rfl sn)))) ?_
      refine T_he [0, 1, 2, 3, 4] [.blk g11 27 ((dig 8 16 (vw half + 1 * vw b)).map b8), .blk g7 27 (half.map b8), .blk g3 22 ((onek 1#8 half 16).map b8), .blk g2 27 (b.map b8), .blk g1 27 (half.map b8)] ⟨by decide, rfl⟩ ?_
      refine T_seq ?_
      refine T_reg hF rfl ?_
      refine L_op rfl (op_pr (pr_assign rfl rfl) rfl rfl ?_)
      refine L_nil ?_
      refine T_re [(2, (.pointer (some ⟨g1, 0, none⟩))), (3, (.pointer (some ⟨g2, 0, none⟩))), (7, (.pointer (some ⟨g7, 0, none⟩))), (8, (.pointer (some ⟨g11, 0, none⟩))), (9, (.int .i64 ((0 : Nat) : Int)))] (sc rfl (sc rfl (sc rfl (sc rfl (sc rfl sn))))) ?_
      refine T_he [0, 1, 2, 3, 4] [.blk g11 27 ((dig 8 16 (vw half + 1 * vw b)).map b8), .blk g7 27 (half.map b8), .blk g3 22 ((onek 1#8 half 16).map b8), .blk g2 27 (b.map b8), .blk g1 27 (half.map b8)] ⟨by decide, rfl⟩ ?_
      refine T_seq ?_
      refine T_seq ?_
      refine T_reg hF rfl ?_
      refine L_op rfl (op_pr (pr_assign rfl rfl) rfl rfl ?_)
      refine L_nil ?_
      refine T_re [(2, (.pointer (some ⟨g1, 0, none⟩))), (3, (.pointer (some ⟨g2, 0, none⟩))), (7, (.pointer (some ⟨g7, 0, none⟩))), (8, (.pointer (some ⟨g11, 0, none⟩))), (9, (.int .i64 ((0 : Nat) : Int))), (10, (.int .i64 ((0 : Nat) : Int)))] (sc rfl (sc rfl (sc rfl (sc rfl (sc rfl (sc rfl sn)))))) ?_
      refine T_he [0, 1, 2, 3, 4] [.blk g11 27 ((dig 8 16 (vw half + 1 * vw b)).map b8), .blk g7 27 (half.map b8), .blk g3 22 ((onek 1#8 half 16).map b8), .blk g2 27 (b.map b8), .blk g1 27 (half.map b8)] ⟨by decide, rfl⟩ ?_
      refine T_block ?_
      refine T_slot 9 (.int .i64 ((0 : Nat) : Int)) (.int .i64 (((cq half b 1 0) : Nat) : Int)) rfl (by rw [cq_zero]) ?_
      refine T_loop (T := Nat) (fun i => i ≤ 16) (fun i => [(2, (.pointer (some ⟨g1, 0, none⟩))), (3, (.pointer (some ⟨g2, 0, none⟩))), (7, (.pointer (some ⟨g7, 0, none⟩))), (8, (.pointer (some ⟨g11, 0, none⟩))), (9, (.int .i64 (((cq half b 1 i) : Nat) : Int))), (10, (.int .i64 ((i : Nat) : Int)))]) (fun i => [.blk g11 27 ((dig 8 16 (vw half + 1 * vw b)).map b8), .blk g7 27 (half.map b8), .blk g3 22 ((onek 1#8 half 16).map b8), .blk g2 27 (b.map b8), .blk g1 27 (half.map b8)]) (fun i => 16 - i) 0 (by first | trivial | ((try dsimp only); first | omega | (refine ⟨?_, ?_⟩ <;> omega) | (refine ⟨?_, ?_, ?_⟩ <;> omega) | (simp; done) | (simp; omega))) (sc rfl (sc rfl (sc rfl (sc rfl (sc rfl (sc rfl sn)))))) [0, 1, 2, 3, 4] ⟨by decide, rfl⟩ ?_
      rintro i hp
      have hp : i ≤ 16 := hp
      have hcq := cq_le half b 1 i (by omega) (by first | omega | (simp; omega))
      have hb1 := (ath half i).isLt
      have hb2 := (ath b i).isLt
      refine T_re [(2, (.pointer (some ⟨g1, 0, none⟩))), (3, (.pointer (some ⟨g2, 0, none⟩))), (7, (.pointer (some ⟨g7, 0, none⟩))), (8, (.pointer (some ⟨g11, 0, none⟩))), (9, (.int .i64 (((cq half b 1 i) : Nat) : Int))), (10, (.int .i64 ((i : Nat) : Int)))] (sc rfl (sc rfl (sc rfl (sc rfl (sc rfl (sc rfl sn)))))) ?_
      refine T_he [0, 1, 2, 3, 4] [.blk g11 27 ((dig 8 16 (vw half + 1 * vw b)).map b8), .blk g7 27 (half.map b8), .blk g3 22 ((onek 1#8 half 16).map b8), .blk g2 27 (b.map b8), .blk g1 27 (half.map b8)] ⟨by decide, rfl⟩ ?_
      refine T_seq ?_
      refine T_seq ?_
      refine T_reg hF rfl ?_
      refine L_op rfl (op_pr (pr_move rfl rfl) rfl rfl ?_)
      refine L_op rfl (op_pr (pr_cmp (bo := .lss) (nc_lt (a := i) (b := 16)) rfl rfl rfl rfl) rfl rfl ?_)
      refine L_nil ?_
      refine T_re [(2, (.pointer (some ⟨g1, 0, none⟩))), (3, (.pointer (some ⟨g2, 0, none⟩))), (7, (.pointer (some ⟨g7, 0, none⟩))), (8, (.pointer (some ⟨g11, 0, none⟩))), (9, (.int .i64 (((cq half b 1 i) : Nat) : Int))), (10, (.int .i64 ((i : Nat) : Int))), (29, (.bool (decide (i < 16))))] (sc rfl (sc rfl (sc rfl (sc rfl (sc rfl (sc rfl (sc rfl sn))))))) ?_
      refine T_he [0, 1, 2, 3, 4] [.blk g11 27 ((dig 8 16 (vw half + 1 * vw b)).map b8), .blk g7 27 (half.map b8), .blk g3 22 ((onek 1#8 half 16).map b8), .blk g2 27 (b.map b8), .blk g1 27 (half.map b8)] ⟨by decide, rfl⟩ ?_
      refine T_cond (decide (i < 16)) rfl (fun hc_23 => ?_) (fun hc_23 => ?_)
      · skip
        have hc_23 := of_decide_eq_true hc_23
        refine T_skip ?_
        refine T_seq ?_
        refine T_block ?_
        refine T_seq ?_
        refine T_regD [.blk g11 27 ((dig 8 16 (vw half + 1 * vw b)).map b8), .blk g7 27 (half.map b8), .blk g3 22 ((onek 1#8 half 16).map b8), .blk g2 27 (b.map b8), .blk g1 27 (half.map b8)] 12 12 #[false, false, false, false, false, false, false, false, false, false, false, false] hF (by kernel_rfl) (by kernel_rfl) ?_
        refine D_pure (i := 0) [0, 1, 2, 3, 4] rfl (by kernel_rfl) rfl (pr_move rfl rfl) (.inr rfl) rfl rfl ?_
        refine D_pure (i := 1) [0, 1, 2, 3, 4] rfl (by kernel_rfl) rfl (pr_move rfl rfl) (.inr rfl) rfl rfl ?_
        refine D_pure (i := 2) [0, 1, 2, 3, 4] rfl (by kernel_rfl) rfl (pr_ixa (j := i) (m' := i) sd (by omega) Try.underlying27 (z := 1) (by kernel_rfl) rfl rfl rfl) (.inr rfl) rfl rfl ?_
        refine D_pure (i := 6) [0, 1, 2, 3, 4] rfl (by kernel_rfl) rfl (pr_move rfl rfl) (.inr rfl) rfl rfl ?_
        refine D_pure (i := 7) [0, 1, 2, 3, 4] rfl (by kernel_rfl) rfl (pr_ixa (j := i) (m' := i) sd (by omega) Try.underlying27 (z := 1) (by kernel_rfl) rfl rfl rfl) (.inr rfl) rfl rfl ?_
        refine D_take (i := 3) [0, 1, 2, 3, 4] rfl (by kernel_rfl) rfl (ld_blk 4 rfl (get8 sd) Try.underlying5 rfl rfl rfl) rfl rfl rfl ?_
        refine D_pure (i := 4) [0, 1, 2, 3, 4] rfl (by kernel_rfl) rfl (pr_cv (n8i ) Try.underlying5 Try.underlying3 rfl rfl) (.inr rfl) rfl rfl ?_
        refine D_pure (i := 5) [0, 1, 2, 3, 4] rfl (by kernel_rfl) rfl (pr_add (na_i64 (a := (cq half b 1 i)) (b := (ath half i).toNat) sd) rfl rfl rfl) (.inr rfl) rfl rfl ?_
        refine D_take (i := 8) [0, 1, 2, 3, 4] rfl (by kernel_rfl) rfl (ld_blk 3 rfl (get8 sd) Try.underlying5 rfl rfl rfl) rfl rfl rfl ?_
        refine D_pure (i := 9) [0, 1, 2, 3, 4] rfl (by kernel_rfl) rfl (pr_cv (n8i ) Try.underlying5 Try.underlying3 rfl rfl) (.inr rfl) rfl rfl ?_
        refine D_pure (i := 10) [0, 1, 2, 3, 4] rfl (by kernel_rfl) rfl (pr_add (na_i64 (a := (cq half b 1 i) + ((ath half i).toNat)) (b := (ath b i).toNat) sd) rfl rfl rfl) (.inr rfl) rfl rfl ?_
        refine D_pure (i := 11) [0, 1, 2, 3, 4] rfl (by kernel_rfl) rfl (pr_assign rfl rfl) (.inr rfl) rfl rfl ?_
        refine D_done (by kernel_rfl) ?_
        refine T_re [(2, (.pointer (some ⟨g1, 0, none⟩))), (3, (.pointer (some ⟨g2, 0, none⟩))), (7, (.pointer (some ⟨g7, 0, none⟩))), (8, (.pointer (some ⟨g11, 0, none⟩))), (9, (.int .i64 (((cq half b 1 i) + ((ath half i).toNat) + ((ath b i).toNat) : Nat) : Int))), (10, (.int .i64 ((i : Nat) : Int)))] (sc rfl (sc rfl (sc rfl (sc rfl (sc rfl (sc rfl sn)))))) ?_
        refine T_he [0, 1, 2, 3, 4] [.blk g11 27 ((dig 8 16 (vw half + 1 * vw b)).map b8), .blk g7 27 (half.map b8), .blk g3 22 ((onek 1#8 half 16).map b8), .blk g2 27 (b.map b8), .blk g1 27 (half.map b8)] ⟨by decide, rfl⟩ ?_
        refine T_seq ?_
        refine T_seq ?_
        refine T_regD [.blk g11 27 ((dig 8 16 (vw half + 1 * vw b)).map b8), .blk g7 27 (half.map b8), .blk g3 22 ((onek 1#8 half 16).map b8), .blk g2 27 (b.map b8), .blk g1 27 (half.map b8)] 15 15 #[false, false, false, false, false, false, false, false, false, false, false, false, false, false, false] hF (by kernel_rfl) (by kernel_rfl) ?_
        refine D_pure (i := 0) [0, 1, 2, 3, 4] rfl (by kernel_rfl) rfl (pr_move rfl rfl) (.inr rfl) rfl rfl ?_
        refine D_pure (i := 1) [0, 1, 2, 3, 4] rfl (by kernel_rfl) rfl (pr_ixa (j := i) (m' := i) sd (by omega) Try.underlying27 (z := 1) (by kernel_rfl) rfl rfl rfl) (.inr rfl) rfl rfl ?_
        refine D_pure (i := 3) [0, 1, 2, 3, 4] rfl (by kernel_rfl) rfl (pr_move rfl rfl) (.inr rfl) rfl rfl ?_
        refine D_pure (i := 4) [0, 1, 2, 3, 4] rfl (by kernel_rfl) rfl (pr_ixa (j := i) (m' := i) sd (by omega) Try.underlying27 (z := 1) (by kernel_rfl) rfl rfl rfl) (.inr rfl) rfl rfl ?_
        refine D_take (i := 2) [0, 1, 2, 3, 4] rfl (by kernel_rfl) rfl (ld_blk 1 rfl (get8 sd) Try.underlying5 rfl rfl rfl) rfl rfl rfl ?_
        refine D_take (i := 5) [0, 1, 2, 3, 4] rfl (by kernel_rfl) rfl (ld_blk 4 rfl (get8 sd) Try.underlying5 rfl rfl rfl) rfl rfl rfl ?_
        refine D_pure (i := 6) [0, 1, 2, 3, 4] rfl (by kernel_rfl) rfl (pr_cmp (bo := .neq) (n8_bne (ath half i) (ath half i)) rfl rfl rfl rfl) (.inr rfl) rfl rfl ?_
        refine D_pure (i := 7) [0, 1, 2, 3, 4] rfl (by kernel_rfl) rfl (pr_move rfl rfl) (.inr rfl) rfl rfl ?_
        refine T_slot 49 (.bool ((ath half i) != (ath half i))) (.bool false) rfl (congrArg _ (by simp)) ?_
        refine T_slot 50 (.bool ((ath half i) != (ath half i))) (.bool false) rfl (congrArg _ (by simp)) ?_
        refine D_pure (i := 8) [0, 1, 2, 3, 4] rfl (by kernel_rfl) rfl (pr_move rfl rfl) (.inr rfl) rfl rfl ?_
        refine D_pure (i := 9) [0, 1, 2, 3, 4] rfl (by kernel_rfl) rfl (pr_ixa (j := i) (m' := i) sd (by omega) Try.underlying27 (z := 1) (by kernel_rfl) rfl rfl rfl) (.inr rfl) rfl rfl ?_
        refine D_pure (i := 11) [0, 1, 2, 3, 4] rfl (by kernel_rfl) rfl (pr_move rfl rfl) (.inr rfl) rfl rfl ?_
        refine D_pure (i := 12) [0, 1, 2, 3, 4] rfl (by kernel_rfl) rfl (pr_cv (nw8 ((cq half b 1 i) + ((ath half i).toNat) + ((ath b i).toNat))) Try.underlying3 Try.underlying5 rfl rfl) (.inr rfl) rfl rfl ?_
        refine D_take (i := 10) [0, 1, 2, 3, 4] rfl (by kernel_rfl) rfl (ld_blk 0 rfl (get8 sd) Try.underlying5 rfl rfl rfl) rfl rfl rfl ?_
        refine D_pure (i := 13) [0, 1, 2, 3, 4] rfl (by kernel_rfl) rfl (pr_cmp (bo := .neq) (n8_bne (ath (dig 8 16 (vw half + 1 * vw b)) i) (BitVec.ofNat 8 ((cq half b 1 i) + ((ath half i).toNat) + ((ath b i).toNat)))) rfl rfl rfl rfl) (.inr rfl) rfl rfl ?_
        refine D_pure (i := 14) [0, 1, 2, 3, 4] rfl (by kernel_rfl) rfl (pr_pick_f rfl rfl rfl) (.inr rfl) rfl rfl ?_
        refine D_done (by kernel_rfl) ?_
        refine T_re [(2, (.pointer (some ⟨g1, 0, none⟩))), (3, (.pointer (some ⟨g2, 0, none⟩))), (7, (.pointer (some ⟨g7, 0, none⟩))), (8, (.pointer (some ⟨g11, 0, none⟩))), (9, (.int .i64 (((cq half b 1 i) + ((ath half i).toNat) + ((ath b i).toNat) : Nat) : Int))), (10, (.int .i64 ((i : Nat) : Int))), (57, (.bool ((ath (dig 8 16 (vw half + 1 * vw b)) i) != (BitVec.ofNat 8 ((cq half b 1 i) + ((ath half i).toNat) + ((ath b i).toNat))))))] (sc rfl (sc rfl (sc rfl (sc rfl (sc rfl (sc rfl (sc rfl sn))))))) ?_
        refine T_he [0, 1, 2, 3, 4] [.blk g11 27 ((dig 8 16 (vw half + 1 * vw b)).map b8), .blk g7 27 (half.map b8), .blk g3 22 ((onek 1#8 half 16).map b8), .blk g2 27 (b.map b8), .blk g1 27 (half.map b8)] ⟨by decide, rfl⟩ ?_
        refine T_cond_no (t := ((ath (dig 8 16 (vw half + 1 * vw b)) i) != (BitVec.ofNat 8 ((cq half b 1 i) + ((ath half i).toNat) + ((ath b i).toNat))))) rfl (by rw [cq_dig half b 1 i 16 hh hb (by omega), Nat.one_mul]; simp) ?_
        refine T_skip ?_
        refine T_reg hF rfl ?_
        refine L_op rfl (op_pr (pr_move rfl rfl) rfl rfl ?_)
        refine L_op rfl (op_pr (pr_shift (nshr_i64 (a := (cq half b 1 i) + ((ath half i).toNat) + ((ath b i).toNat)) (m := 8) (by decide)) rfl rfl rfl rfl) rfl rfl ?_)
        refine L_op rfl (op_pr (pr_assign rfl rfl) rfl rfl ?_)
        refine L_nil ?_
        refine T_re [(2, (.pointer (some ⟨g1, 0, none⟩))), (3, (.pointer (some ⟨g2, 0, none⟩))), (7, (.pointer (some ⟨g7, 0, none⟩))), (8, (.pointer (some ⟨g11, 0, none⟩))), (9, (.int .i64 ((((cq half b 1 i) + ((ath half i).toNat) + ((ath b i).toNat)) / 256 : Nat) : Int))), (10, (.int .i64 ((i : Nat) : Int)))] (sc rfl (sc rfl (sc rfl (sc rfl (sc rfl (sc rfl sn)))))) ?_
        refine T_he [0, 1, 2, 3, 4] [.blk g11 27 ((dig 8 16 (vw half + 1 * vw b)).map b8), .blk g7 27 (half.map b8), .blk g3 22 ((onek 1#8 half 16).map b8), .blk g2 27 (b.map b8), .blk g1 27 (half.map b8)] ⟨by decide, rfl⟩ ?_
        refine T_reg hF rfl ?_
        refine L_op rfl (op_pr (pr_move rfl rfl) rfl rfl ?_)
        refine L_op rfl (op_pr (pr_add (na_i64 (a := i) (b := 1) sd) rfl rfl rfl) rfl rfl ?_)
        refine L_op rfl (op_pr (pr_assign rfl rfl) rfl rfl ?_)
        refine L_nil ?_
        refine T_re [(2, (.pointer (some ⟨g1, 0, none⟩))), (3, (.pointer (some ⟨g2, 0, none⟩))), (7, (.pointer (some ⟨g7, 0, none⟩))), (8, (.pointer (some ⟨g11, 0, none⟩))), (9, (.int .i64 ((((cq half b 1 i) + ((ath half i).toNat) + ((ath b i).toNat)) / 256 : Nat) : Int))), (10, (.int .i64 ((i + 1 : Nat) : Int)))] (sc rfl (sc rfl (sc rfl (sc rfl (sc rfl (sc rfl sn)))))) ?_
        refine T_he [0, 1, 2, 3, 4] [.blk g11 27 ((dig 8 16 (vw half + 1 * vw b)).map b8), .blk g7 27 (half.map b8), .blk g3 22 ((onek 1#8 half 16).map b8), .blk g2 27 (b.map b8), .blk g1 27 (half.map b8)] ⟨by decide, rfl⟩ ?_
        refine T_slot 9 (.int .i64 ((((cq half b 1 i) + ((ath half i).toNat) + ((ath b i).toNat)) / 256 : Nat) : Int)) (.int .i64 (((cq half b 1 (i + 1)) : Nat) : Int)) rfl (by rw [cq_succ half b 1 i (by omega) (by first | omega | (simp; omega))]; rw [Nat.one_mul]) ?_
        exact T_again (i + 1) (by first | trivial | ((try dsimp only); first | omega | (refine ⟨?_, ?_⟩ <;> omega) | (refine ⟨?_, ?_, ?_⟩ <;> omega) | (simp; done) | (simp; omega))) (by first | trivial | ((try dsimp only); first | omega | (refine ⟨?_, ?_⟩ <;> omega) | (refine ⟨?_, ?_, ?_⟩ <;> omega) | (simp; done) | (simp; omega))) (sc rfl (sc rfl (sc rfl (sc rfl (sc rfl (sc rfl sn)))))) [0, 1, 2, 3, 4] ⟨by decide, rfl⟩
      · skip
        have hc_23 := of_decide_eq_false hc_23
        refine T_exit rfl ?_
        refine T_seq ?_
        refine T_reg hF rfl ?_
        refine L_op rfl (op_call0 (vs := []) (cap := []) (fun w hw => awake6_f  w (hok_nil w) ) (enters_of Try.func16 (by kernel_rfl) rfl) rfl rfl rfl rfl rfl (fun t24 q25 => ?_))
        refine L_op rfl (op_pr (pr_assign rfl rfl) rfl rfl ?_)
        refine L_nil ?_
        refine T_re [(4, (.bool true))] (sc rfl sn) ?_
        refine T_he [0, 1, 2, 3, 4] [.blk g11 27 ((dig 8 16 (vw half + 1 * vw b)).map b8), .blk g7 27 (half.map b8), .blk g3 22 ((onek 1#8 half 16).map b8), .blk g2 27 (b.map b8), .blk g1 27 (half.map b8)] ⟨by decide, rfl⟩ ?_
        refine T_ret ?_
        exact T_fin () (by first | trivial | omega | (simp; done)) (res1 rfl rfl) [] ⟨by decide, rfl⟩ rfl
set_option maxHeartbeats 4000000 in
theorem polyTwice_f (half : List (BitVec 8)) (b : List (BitVec 8)) (w : World) (hO : HOK [] w) (hh : half.length = 16) (hb : b.length = 16) : Calls Try.prog 6 [(.agg (half.map b8).toArray), (.agg (b.map b8).toArray)].toArray w (Ret (T := Unit) [] w (fun _ => True) (fun _ => (.bool true)) (fun _ => [])) := by
  have hol := fun i h => onek_len 2#8 half i hh h
  have hpl := ptag_len (onek 2#8 half 16) (List.set b 15 ((ath b 15) &&& 127#8))
  have hp0 := ptag_len (onek 2#8 half 16) []
  have hdl := dig_len 8 16 (vw half + 2 * vw (List.set b 15 ((ath b 15) &&& 127#8)))
  have hb15 : (List.set b 15 ((ath b 15) &&& 127#8)).length = 16 := by rw [List.length_set, hb]
  have hF : Wid Fence.wide := wid_wide
  refine enter (c := _) Try.func6 rfl [] [(.agg (half.map b8).toArray), (.agg (b.map b8).toArray)] [] (by rw [Try.ntmps6]; rfl) (own_rds hO rfl) ?_
  rw [Try.ntmps6]
  refine T_re [(0, (.agg (half.map b8).toArray)), (1, (.agg (b.map b8).toArray))] (sc rfl (sc rfl sn)) ?_
  refine T_he [] [] ⟨by decide, rfl⟩ ?_
  refine T_seq ?_
  refine T_reg hF rfl ?_
  refine L_op rfl (op_box (zs := (half.map b8)) rfl rfl rfl rfl rfl (fun g1 => ?_))
  refine L_op rfl (op_box (zs := (b.map b8)) rfl rfl rfl rfl rfl (fun g2 => ?_))
  refine L_op rfl (op_pr (pr_assign rfl rfl) rfl rfl ?_)
  refine L_nil ?_
  refine T_re [(2, (.pointer (some ⟨g1, 0, none⟩))), (3, (.pointer (some ⟨g2, 0, none⟩)))] (sc rfl (sc rfl sn)) ?_
  refine T_he [0, 1] [.blk g2 27 (b.map b8), .blk g1 27 (half.map b8)] ⟨by decide, rfl⟩ ?_
  refine T_seq ?_
  refine T_reg hF rfl ?_
  refine L_op rfl (op_alloc (z := .agg ((List.replicate 32 0#8).map b8).toArray) (zs := ((List.replicate 32 0#8).map b8)) (by kernel_rfl) rfl rfl rfl rfl (fun g3 => ?_))
  refine L_nil ?_
  refine T_re [(2, (.pointer (some ⟨g1, 0, none⟩))), (3, (.pointer (some ⟨g2, 0, none⟩))), (5, (.pointer (some ⟨g3, 0, none⟩)))] (sc rfl (sc rfl (sc rfl sn))) ?_
  refine T_he [0, 1, 2] [.blk g3 22 ((List.replicate 32 0#8).map b8), .blk g2 27 (b.map b8), .blk g1 27 (half.map b8)] ⟨by decide, rfl⟩ ?_
  refine T_seq ?_
  refine T_reg hF rfl ?_
  refine L_op rfl (op_pr (pr_ixa (j := 0) (m' := 0) sd (by omega) Try.underlying22 (z := 1) (by kernel_rfl) rfl rfl rfl) rfl rfl ?_)
  refine L_op rfl (op_store (vs := [(b8 (2#8))]) (cs' := ((List.set (List.replicate 32 0#8) 0 (2#8)).map b8)) 0 rfl rfl (by kernel_rfl) (one_one rfl) (by have : 0 < ((List.replicate 32 0#8)).length := sd; simp only [List.length_map, List.length_singleton]; omega) (splice_map (f := b8) sd) rfl rfl rfl rfl ?_)
  refine L_nil ?_
  refine T_re [(2, (.pointer (some ⟨g1, 0, none⟩))), (3, (.pointer (some ⟨g2, 0, none⟩))), (5, (.pointer (some ⟨g3, 0, none⟩)))] (sc rfl (sc rfl (sc rfl sn))) ?_
  refine T_he [0, 1, 2] [.blk g3 22 ((List.set (List.replicate 32 0#8) 0 (2#8)).map b8), .blk g2 27 (b.map b8), .blk g1 27 (half.map b8)] ⟨by decide, rfl⟩ ?_
  refine T_seq ?_
  refine T_seq ?_
  refine T_reg hF rfl ?_
  refine L_op rfl (op_pr (pr_assign rfl rfl) rfl rfl ?_)
  refine L_nil ?_
  refine T_re [(2, (.pointer (some ⟨g1, 0, none⟩))), (3, (.pointer (some ⟨g2, 0, none⟩))), (5, (.pointer (some ⟨g3, 0, none⟩))), (6, (.int .i64 ((0 : Nat) : Int)))] (sc rfl (sc rfl (sc rfl (sc rfl sn)))) ?_
  refine T_he [0, 1, 2] [.blk g3 22 ((List.set (List.replicate 32 0#8) 0 (2#8)).map b8), .blk g2 27 (b.map b8), .blk g1 27 (half.map b8)] ⟨by decide, rfl⟩ ?_
  refine T_block ?_
  refine T_as 0 (.blk g3 22 ((List.set (List.replicate 32 0#8) 0 (2#8)).map b8)) (.blk g3 22 ((onek 2#8 half 0).map b8)) rfl (by rw [onek_zero]) ?_
  refine T_loop (T := Nat) (fun i => i ≤ 16) (fun i => [(2, (.pointer (some ⟨g1, 0, none⟩))), (3, (.pointer (some ⟨g2, 0, none⟩))), (5, (.pointer (some ⟨g3, 0, none⟩))), (6, (.int .i64 ((i : Nat) : Int)))]) (fun i => [.blk g3 22 ((onek 2#8 half i).map b8), .blk g2 27 (b.map b8), .blk g1 27 (half.map b8)]) (fun i => 16 - i) 0 (by first | trivial | ((try dsimp only); first | omega | (refine ⟨?_, ?_⟩ <;> omega) | (refine ⟨?_, ?_, ?_⟩ <;> omega) | (simp; done) | (simp; omega))) (sc rfl (sc rfl (sc rfl (sc rfl sn)))) [0, 1, 2] ⟨by decide, rfl⟩ ?_
  rintro i hp
  have hp : i ≤ 16 := hp
  have hoi := hol i hp
  refine T_re [(2, (.pointer (some ⟨g1, 0, none⟩))), (3, (.pointer (some ⟨g2, 0, none⟩))), (5, (.pointer (some ⟨g3, 0, none⟩))), (6, (.int .i64 ((i : Nat) : Int)))] (sc rfl (sc rfl (sc rfl (sc rfl sn)))) ?_
  refine T_he [0, 1, 2] [.blk g3 22 ((onek 2#8 half i).map b8), .blk g2 27 (b.map b8), .blk g1 27 (half.map b8)] ⟨by decide, rfl⟩ ?_
  refine T_seq ?_
  refine T_seq ?_
  refine T_reg hF rfl ?_
  refine L_op rfl (op_pr (pr_move rfl rfl) rfl rfl ?_)
  refine L_op rfl (op_pr (pr_cmp (bo := .lss) (nc_lt (a := i) (b := 16)) rfl rfl rfl rfl) rfl rfl ?_)
  refine L_nil ?_
  refine T_re [(2, (.pointer (some ⟨g1, 0, none⟩))), (3, (.pointer (some ⟨g2, 0, none⟩))), (5, (.pointer (some ⟨g3, 0, none⟩))), (6, (.int .i64 ((i : Nat) : Int))), (12, (.bool (decide (i < 16))))] (sc rfl (sc rfl (sc rfl (sc rfl (sc rfl sn))))) ?_
  refine T_he [0, 1, 2] [.blk g3 22 ((onek 2#8 half i).map b8), .blk g2 27 (b.map b8), .blk g1 27 (half.map b8)] ⟨by decide, rfl⟩ ?_
  refine T_cond (decide (i < 16)) rfl (fun hc_4 => ?_) (fun hc_4 => ?_)
  · skip
    have hc_4 := of_decide_eq_true hc_4
    refine T_skip ?_
    refine T_seq ?_
    refine T_block ?_
    refine T_reg hF rfl ?_
    refine L_op rfl (op_pr (pr_move rfl rfl) rfl rfl ?_)
    refine L_op rfl (op_pr (pr_add (na_i64 (a := 16) (b := i) sd) rfl rfl rfl) rfl rfl ?_)
    refine L_op rfl (op_pr (pr_move rfl rfl) rfl rfl ?_)
    refine L_op rfl (op_pr (pr_ixa (j := i) (m' := i) sd (by omega) Try.underlying27 (z := 1) (by kernel_rfl) rfl rfl rfl) rfl rfl ?_)
    refine L_op rfl (op_ld (ld_blk 2 rfl (get8 sd) Try.underlying5 rfl rfl rfl) rfl rfl ?_)
    refine L_op rfl (op_pr (pr_ixa (j := 16 + i) (m' := 16 + i) sd (by omega) Try.underlying22 (z := 1) (by kernel_rfl) rfl rfl rfl) rfl rfl ?_)
    refine L_op rfl (op_store (vs := [(b8 (ath half i))]) (cs' := ((List.set (onek 2#8 half i) (16 + i) (ath half i)).map b8)) 0 rfl rfl (by kernel_rfl) (one_one rfl) (by have : 16 + i < ((onek 2#8 half i)).length := sd; simp only [List.length_map, List.length_singleton]; omega) (splice_map (f := b8) sd) rfl rfl rfl rfl ?_)
    refine L_nil ?_
    refine T_re [(2, (.pointer (some ⟨g1, 0, none⟩))), (3, (.pointer (some ⟨g2, 0, none⟩))), (5, (.pointer (some ⟨g3, 0, none⟩))), (6, (.int .i64 ((i : Nat) : Int)))] (sc rfl (sc rfl (sc rfl (sc rfl sn)))) ?_
    refine T_he [0, 1, 2] [.blk g3 22 ((List.set (onek 2#8 half i) (16 + i) (ath half i)).map b8), .blk g2 27 (b.map b8), .blk g1 27 (half.map b8)] ⟨by decide, rfl⟩ ?_
    refine T_reg hF rfl ?_
    refine L_op rfl (op_pr (pr_move rfl rfl) rfl rfl ?_)
    refine L_op rfl (op_pr (pr_add (na_i64 (a := i) (b := 1) sd) rfl rfl rfl) rfl rfl ?_)
    refine L_op rfl (op_pr (pr_assign rfl rfl) rfl rfl ?_)
    refine L_nil ?_
    refine T_re [(2, (.pointer (some ⟨g1, 0, none⟩))), (3, (.pointer (some ⟨g2, 0, none⟩))), (5, (.pointer (some ⟨g3, 0, none⟩))), (6, (.int .i64 ((i + 1 : Nat) : Int)))] (sc rfl (sc rfl (sc rfl (sc rfl sn)))) ?_
    refine T_he [0, 1, 2] [.blk g3 22 ((List.set (onek 2#8 half i) (16 + i) (ath half i)).map b8), .blk g2 27 (b.map b8), .blk g1 27 (half.map b8)] ⟨by decide, rfl⟩ ?_
    refine T_as 0 (.blk g3 22 ((List.set (onek 2#8 half i) (16 + i) (ath half i)).map b8)) (.blk g3 22 ((onek 2#8 half (i + 1)).map b8)) rfl (by rw [onek_set _ _ _ hh (by omega)]) ?_
    exact T_again (i + 1) (by first | trivial | ((try dsimp only); first | omega | (refine ⟨?_, ?_⟩ <;> omega) | (refine ⟨?_, ?_, ?_⟩ <;> omega) | (simp; done) | (simp; omega))) (by first | trivial | ((try dsimp only); first | omega | (refine ⟨?_, ?_⟩ <;> omega) | (refine ⟨?_, ?_, ?_⟩ <;> omega) | (simp; done) | (simp; omega))) (sc rfl (sc rfl (sc rfl (sc rfl sn)))) [0, 1, 2] ⟨by decide, rfl⟩
  · skip
    have hc_4 := of_decide_eq_false hc_4
    refine T_exit rfl ?_
    obtain rfl : 16 = i := by omega
    refine T_seq ?_
    refine T_reg hF rfl ?_
    refine L_op rfl (op_pr (pr_ixa (j := 15) (m' := 15) sd (by omega) Try.underlying27 (z := 1) (by kernel_rfl) rfl rfl rfl) rfl rfl ?_)
    refine L_op rfl (op_ld (ld_blk 1 rfl (get8 sd) Try.underlying5 rfl rfl rfl) rfl rfl ?_)
    refine L_op rfl (op_pr (pr_and (ib_and8 _ (127#8)) rfl rfl rfl) rfl rfl ?_)
    refine L_op rfl (op_pr (pr_ixa (j := 15) (m' := 15) sd (by omega) Try.underlying27 (z := 1) (by kernel_rfl) rfl rfl rfl) rfl rfl ?_)
    refine L_op rfl (op_store (vs := [(b8 ((ath b 15) &&& 127#8))]) (cs' := ((List.set b 15 ((ath b 15) &&& 127#8)).map b8)) 1 rfl rfl (by kernel_rfl) (one_one rfl) (by have : 15 < (b).length := sd; simp only [List.length_map, List.length_singleton]; omega) (splice_map (f := b8) sd) rfl rfl rfl rfl ?_)
    refine L_nil ?_
    refine T_re [(2, (.pointer (some ⟨g1, 0, none⟩))), (3, (.pointer (some ⟨g2, 0, none⟩))), (5, (.pointer (some ⟨g3, 0, none⟩)))] (sc rfl (sc rfl (sc rfl sn))) ?_
    refine T_he [0, 1, 2] [.blk g2 27 ((List.set b 15 ((ath b 15) &&& 127#8)).map b8), .blk g3 22 ((onek 2#8 half 16).map b8), .blk g1 27 (half.map b8)] ⟨by decide, rfl⟩ ?_
    refine T_seq ?_
    refine T_regD [.blk g2 27 ((List.set b 15 ((ath b 15) &&& 127#8)).map b8), .blk g3 22 ((onek 2#8 half 16).map b8), .blk g1 27 (half.map b8)] 5 6 #[false, false, false, false, false, false] hF (by kernel_rfl) (by kernel_rfl) ?_
    refine D_pure (i := 1) [0, 1, 2] rfl (by kernel_rfl) rfl (pr_sla (l := 0) (u := 16) (m := 0) sd sd sd rfl Try.underlying27 (z := 1) (by kernel_rfl) rfl rfl rfl rfl) (.inr rfl) rfl rfl ?_
    refine D_take (i := 0) [0, 1, 2] rfl (by kernel_rfl) rfl (ld_agg (ds := ((onek 2#8 half 16).map b8)) 1 rfl agg_all Try.underlying22 rfl (by rw [show (((onek 2#8 half 16).map b8)).length = 32 from sd]; kernel_rfl) rfl rfl) rfl rfl rfl ?_
    refine D_join (T := Nat) (fun _ => True) (fun g8 => [(2, (.pointer (some ⟨g1, 0, none⟩))), (3, (.pointer (some ⟨g2, 0, none⟩))), (7, (.pointer (some ⟨g8, 0, none⟩)))]) (fun g8 => [.blk g8 27 ((dig 8 16 (vw half + 2 * vw (List.set b 15 ((ath b 15) &&& 127#8)))).map b8), .blk g2 27 ((List.set b 15 ((ath b 15) &&& 127#8)).map b8), .blk g3 22 ((onek 2#8 half 16).map b8), .blk g1 27 (half.map b8)]) ?_ ?_
    · skip
      refine D_all [2, 4] (by kernel_rfl) (by simp) ⟨⟨_, rfl, rfl, ?_⟩, ⟨_, rfl, rfl, ?_⟩, trivial⟩
      · skip
        refine id (op_bslice (e := 25) (zs := [(.slice (some ⟨g2, 0, none⟩) 16 16)]) (qs := [(0, (.slice (some ⟨g2, 0, none⟩) 16 16))]) (fun _ => by kernel_rfl) rfl rfl rfl rfl (fun g9 => ?_))
        refine D_on [1, 2, 3] rfl ?_
        refine D_all [3, 4] (by kernel_rfl) (by simp) ⟨⟨_, rfl, rfl, ?_⟩, ⟨_, rfl, rfl, ?_⟩, trivial⟩
        · skip
          refine id (op_call0 (vs := [(.agg ((onek 2#8 half 16).map b8).toArray), (.slice (some ⟨g9, 0, none⟩) 1 1)]) (cap := []) (fun w hw => ptag_f (onek 2#8 half 16) [(Pt.mk (some ⟨g2, 0, none⟩) 16 16 (List.set b 15 ((ath b 15) &&& 127#8)))] (some ⟨g9, 0, none⟩) 1 1 w (hok_cons ((src_full (z := 1) 0 rfl rfl sd sd) w hw) (hok_cons (all_cons ((src_full (z := 1) 1 rfl sd sd sd) w hw) (all_nil w)) (hok_nil w))) sd sd sd (by first | assumption | omega | (simp only [c6_cons, c6_nil, List.append_nil, List.length_append]; omega) | (simp [c6_cons, c6_nil]; done) | (simp [c6_cons, c6_nil]; omega))) (enters_of Try.func18 (by kernel_rfl) rfl) rfl rfl rfl rfl rfl (fun t10 q11 => ?_))
          refine T_slot 28 (.agg ((ptag (onek 2#8 half 16) (catp [(Pt.mk (some ⟨g2, 0, none⟩) 16 16 (List.set b 15 ((ath b 15) &&& 127#8)))])).map b8).toArray) (.agg ((dig 8 16 (vw half + 2 * vw (List.set b 15 ((ath b 15) &&& 127#8)))).map b8).toArray) rfl (by rw [c6_one, ptag_two half b hh hb]) ?_
          refine D_on [1, 2, 3] rfl ?_
          refine D_one 4 _ rfl (by kernel_rfl) rfl (op_alloc (z := .agg ((List.replicate 16 0#8).map b8).toArray) (zs := ((List.replicate 16 0#8).map b8)) (by kernel_rfl) rfl rfl rfl rfl (fun g12 => ?_))
          refine D_on [2, 3, 4] rfl ?_
          refine D_one 5 _ rfl (by kernel_rfl) rfl (op_store (vs := ((dig 8 16 (vw half + 2 * vw (List.set b 15 ((ath b 15) &&& 127#8)))).map b8)) (cs' := ((dig 8 16 (vw half + 2 * vw (List.set b 15 ((ath b 15) &&& 127#8)))).map b8)) 0 rfl rfl (by rw [show (((dig 8 16 (vw half + 2 * vw (List.set b 15 ((ath b 15) &&& 127#8)))).map b8)).length = 16 from sd]; kernel_rfl) (all8_one _) (by have h1 : (((List.replicate 16 0#8).map b8)).length = 16 := (by kernel_rfl); have h2 : (((dig 8 16 (vw half + 2 * vw (List.set b 15 ((ath b 15) &&& 127#8)))).map b8)).length = 16 := sd; omega) (splice_all (Eq.trans (b := 16) (by kernel_rfl) (Eq.symm sd))) rfl rfl rfl rfl ?_)
          refine D_past (by kernel_rfl) ?_
          refine D_done (by kernel_rfl) ?_
          exact T_meet g12 trivial (sc rfl (sc rfl (sc rfl sn))) [0, 2, 3, 4] ⟨by decide, rfl⟩
        · skip
          refine id (op_alloc (z := .agg ((List.replicate 16 0#8).map b8).toArray) (zs := ((List.replicate 16 0#8).map b8)) (by kernel_rfl) rfl rfl rfl rfl (fun g13 => ?_))
          refine D_on [2, 3, 4] rfl ?_
          refine D_one 3 _ rfl (by kernel_rfl) rfl (op_call0 (vs := [(.agg ((onek 2#8 half 16).map b8).toArray), (.slice (some ⟨g9, 0, none⟩) 1 1)]) (cap := []) (fun w hw => ptag_f (onek 2#8 half 16) [(Pt.mk (some ⟨g2, 0, none⟩) 16 16 (List.set b 15 ((ath b 15) &&& 127#8)))] (some ⟨g9, 0, none⟩) 1 1 w (hok_cons ((src_full (z := 1) 1 rfl rfl sd sd) w hw) (hok_cons (all_cons ((src_full (z := 1) 2 rfl sd sd sd) w hw) (all_nil w)) (hok_nil w))) sd sd sd (by first | assumption | omega | (simp only [c6_cons, c6_nil, List.append_nil, List.length_append]; omega) | (simp [c6_cons, c6_nil]; done) | (simp [c6_cons, c6_nil]; omega))) (enters_of Try.func18 (by kernel_rfl) rfl) rfl rfl rfl rfl rfl (fun t14 q15 => ?_))
          refine T_slot 28 (.agg ((ptag (onek 2#8 half 16) (catp [(Pt.mk (some ⟨g2, 0, none⟩) 16 16 (List.set b 15 ((ath b 15) &&& 127#8)))])).map b8).toArray) (.agg ((dig 8 16 (vw half + 2 * vw (List.set b 15 ((ath b 15) &&& 127#8)))).map b8).toArray) rfl (by rw [c6_one, ptag_two half b hh hb]) ?_
          refine D_on [2, 3, 4] rfl ?_
          refine D_one 5 _ rfl (by kernel_rfl) rfl (op_store (vs := ((dig 8 16 (vw half + 2 * vw (List.set b 15 ((ath b 15) &&& 127#8)))).map b8)) (cs' := ((dig 8 16 (vw half + 2 * vw (List.set b 15 ((ath b 15) &&& 127#8)))).map b8)) 0 rfl rfl (by rw [show (((dig 8 16 (vw half + 2 * vw (List.set b 15 ((ath b 15) &&& 127#8)))).map b8)).length = 16 from sd]; kernel_rfl) (all8_one _) (by have h1 : (((List.replicate 16 0#8).map b8)).length = 16 := (by kernel_rfl); have h2 : (((dig 8 16 (vw half + 2 * vw (List.set b 15 ((ath b 15) &&& 127#8)))).map b8)).length = 16 := sd; omega) (splice_all (Eq.trans (b := 16) (by kernel_rfl) (Eq.symm sd))) rfl rfl rfl rfl ?_)
          refine D_past (by kernel_rfl) ?_
          refine D_done (by kernel_rfl) ?_
          exact T_meet g13 trivial (sc rfl (sc rfl (sc rfl sn))) [0, 2, 3, 4] ⟨by decide, rfl⟩
      · skip
        refine id (op_alloc (z := .agg ((List.replicate 16 0#8).map b8).toArray) (zs := ((List.replicate 16 0#8).map b8)) (by kernel_rfl) rfl rfl rfl rfl (fun g16 => ?_))
        refine D_on [1, 2, 3] rfl ?_
        refine D_one 2 _ rfl (by kernel_rfl) rfl (op_bslice (e := 25) (zs := [(.slice (some ⟨g2, 0, none⟩) 16 16)]) (qs := [(0, (.slice (some ⟨g2, 0, none⟩) 16 16))]) (fun _ => by kernel_rfl) rfl rfl rfl rfl (fun g17 => ?_))
        refine D_on [2, 3, 4] rfl ?_
        refine D_one 3 _ rfl (by kernel_rfl) rfl (op_call0 (vs := [(.agg ((onek 2#8 half 16).map b8).toArray), (.slice (some ⟨g17, 0, none⟩) 1 1)]) (cap := []) (fun w hw => ptag_f (onek 2#8 half 16) [(Pt.mk (some ⟨g2, 0, none⟩) 16 16 (List.set b 15 ((ath b 15) &&& 127#8)))] (some ⟨g17, 0, none⟩) 1 1 w (hok_cons ((src_full (z := 1) 0 rfl rfl sd sd) w hw) (hok_cons (all_cons ((src_full (z := 1) 2 rfl sd sd sd) w hw) (all_nil w)) (hok_nil w))) sd sd sd (by first | assumption | omega | (simp only [c6_cons, c6_nil, List.append_nil, List.length_append]; omega) | (simp [c6_cons, c6_nil]; done) | (simp [c6_cons, c6_nil]; omega))) (enters_of Try.func18 (by kernel_rfl) rfl) rfl rfl rfl rfl rfl (fun t18 q19 => ?_))
        refine T_slot 28 (.agg ((ptag (onek 2#8 half 16) (catp [(Pt.mk (some ⟨g2, 0, none⟩) 16 16 (List.set b 15 ((ath b 15) &&& 127#8)))])).map b8).toArray) (.agg ((dig 8 16 (vw half + 2 * vw (List.set b 15 ((ath b 15) &&& 127#8)))).map b8).toArray) rfl (by rw [c6_one, ptag_two half b hh hb]) ?_
        refine D_on [2, 3, 4] rfl ?_
        refine D_one 5 _ rfl (by kernel_rfl) rfl (op_store (vs := ((dig 8 16 (vw half + 2 * vw (List.set b 15 ((ath b 15) &&& 127#8)))).map b8)) (cs' := ((dig 8 16 (vw half + 2 * vw (List.set b 15 ((ath b 15) &&& 127#8)))).map b8)) 1 rfl rfl (by rw [show (((dig 8 16 (vw half + 2 * vw (List.set b 15 ((ath b 15) &&& 127#8)))).map b8)).length = 16 from sd]; kernel_rfl) (all8_one _) (by have h1 : (((List.replicate 16 0#8).map b8)).length = 16 := (by kernel_rfl); have h2 : (((dig 8 16 (vw half + 2 * vw (List.set b 15 ((ath b 15) &&& 127#8)))).map b8)).length = 16 := sd; omega) (splice_all (Eq.trans (b := 16) (by kernel_rfl) (Eq.symm sd))) rfl rfl rfl rfl ?_)
        refine D_past (by kernel_rfl) ?_
        refine D_done (by kernel_rfl) ?_
        exact T_meet g16 trivial (sc rfl (sc rfl (sc rfl sn))) [0, 2, 3, 4] ⟨by decide, rfl⟩
    · rintro g8 -
      refine T_re [(2, (.pointer (some ⟨g1, 0, none⟩))), (3, (.pointer (some ⟨g2, 0, none⟩))), (7, (.pointer (some ⟨g8, 0, none⟩)))] (sc rfl (sc rfl (sc rfl sn))) ?_
      refine T_he [0, 1, 2, 3] [.blk g8 27 ((dig 8 16 (vw half + 2 * vw (List.set b 15 ((ath b 15) &&& 127#8)))).map b8), .blk g2 27 ((List.set b 15 ((ath b 15) &&& 127#8)).map b8), .blk g3 22 ((onek 2#8 half 16).map b8), .blk g1 27 (half.map b8)] ⟨by decide, rfl⟩ ?_
      refine T_seq ?_
      refine T_reg hF rfl ?_
      refine L_op rfl (op_pr (pr_assign rfl rfl) rfl rfl ?_)
      refine L_nil ?_
      refine T_re [(2, (.pointer (some ⟨g1, 0, none⟩))), (3, (.pointer (some ⟨g2, 0, none⟩))), (7, (.pointer (some ⟨g8, 0, none⟩))), (8, (.int .i64 ((0 : Nat) : Int)))] (sc rfl (sc rfl (sc rfl (sc rfl sn)))) ?_
      refine T_he [0, 1, 2, 3] [.blk g8 27 ((dig 8 16 (vw half + 2 * vw (List.set b 15 ((ath b 15) &&& 127#8)))).map b8), .blk g2 27 ((List.set b 15 ((ath b 15) &&& 127#8)).map b8), .blk g3 22 ((onek 2#8 half 16).map b8), .blk g1 27 (half.map b8)] ⟨by decide, rfl⟩ ?_
      refine T_seq ?_
      refine T_seq ?_
      refine T_reg hF rfl ?_
      refine L_op rfl (op_pr (pr_assign rfl rfl) rfl rfl ?_)
      refine L_nil ?_
      refine T_re [(2, (.pointer (some ⟨g1, 0, none⟩))), (3, (.pointer (some ⟨g2, 0, none⟩))), (7, (.pointer (some ⟨g8, 0, none⟩))), (8, (.int .i64 ((0 : Nat) : Int))), (9, (.int .i64 ((0 : Nat) : Int)))] (sc rfl (sc rfl (sc rfl (sc rfl (sc rfl sn))))) ?_
      refine T_he [0, 1, 2, 3] [.blk g8 27 ((dig 8 16 (vw half + 2 * vw (List.set b 15 ((ath b 15) &&& 127#8)))).map b8), .blk g2 27 ((List.set b 15 ((ath b 15) &&& 127#8)).map b8), .blk g3 22 ((onek 2#8 half 16).map b8), .blk g1 27 (half.map b8)] ⟨by decide, rfl⟩ ?_
      refine T_block ?_
      refine T_slot 8 (.int .i64 ((0 : Nat) : Int)) (.int .i64 (((cq half (List.set b 15 ((ath b 15) &&& 127#8)) 2 0) : Nat) : Int)) rfl (by rw [cq_zero]) ?_
      refine T_loop (T := Nat) (fun i => i ≤ 16) (fun i => [(2, (.pointer (some ⟨g1, 0, none⟩))), (3, (.pointer (some ⟨g2, 0, none⟩))), (7, (.pointer (some ⟨g8, 0, none⟩))), (8, (.int .i64 (((cq half (List.set b 15 ((ath b 15) &&& 127#8)) 2 i) : Nat) : Int))), (9, (.int .i64 ((i : Nat) : Int)))]) (fun i => [.blk g8 27 ((dig 8 16 (vw half + 2 * vw (List.set b 15 ((ath b 15) &&& 127#8)))).map b8), .blk g2 27 ((List.set b 15 ((ath b 15) &&& 127#8)).map b8), .blk g3 22 ((onek 2#8 half 16).map b8), .blk g1 27 (half.map b8)]) (fun i => 16 - i) 0 (by first | trivial | ((try dsimp only); first | omega | (refine ⟨?_, ?_⟩ <;> omega) | (refine ⟨?_, ?_, ?_⟩ <;> omega) | (simp; done) | (simp; omega))) (sc rfl (sc rfl (sc rfl (sc rfl (sc rfl sn))))) [0, 1, 2, 3] ⟨by decide, rfl⟩ ?_
      rintro i hp
      have hp : i ≤ 16 := hp
      have hcq := cq_le half (List.set b 15 ((ath b 15) &&& 127#8)) 2 i (by omega) (by first | omega | (simp; omega))
      have hb1 := (ath half i).isLt
      have hb2 := (ath (List.set b 15 ((ath b 15) &&& 127#8)) i).isLt
      refine T_re [(2, (.pointer (some ⟨g1, 0, none⟩))), (3, (.pointer (some ⟨g2, 0, none⟩))), (7, (.pointer (some ⟨g8, 0, none⟩))), (8, (.int .i64 (((cq half (List.set b 15 ((ath b 15) &&& 127#8)) 2 i) : Nat) : Int))), (9, (.int .i64 ((i : Nat) : Int)))] (sc rfl (sc rfl (sc rfl (sc rfl (sc rfl sn))))) ?_
      refine T_he [0, 1, 2, 3] [.blk g8 27 ((dig 8 16 (vw half + 2 * vw (List.set b 15 ((ath b 15) &&& 127#8)))).map b8), .blk g2 27 ((List.set b 15 ((ath b 15) &&& 127#8)).map b8), .blk g3 22 ((onek 2#8 half 16).map b8), .blk g1 27 (half.map b8)] ⟨by decide, rfl⟩ ?_
      refine T_seq ?_
      refine T_seq ?_
      refine T_reg hF rfl ?_
      refine L_op rfl (op_pr (pr_move rfl rfl) rfl rfl ?_)
      refine L_op rfl (op_pr (pr_cmp (bo := .lss) (nc_lt (a := i) (b := 16)) rfl rfl rfl rfl) rfl rfl ?_)
      refine L_nil ?_
      refine T_re [(2, (.pointer (some ⟨g1, 0, none⟩))), (3, (.pointer (some ⟨g2, 0, none⟩))), (7, (.pointer (some ⟨g8, 0, none⟩))), (8, (.int .i64 (((cq half (List.set b 15 ((ath b 15) &&& 127#8)) 2 i) : Nat) : Int))), (9, (.int .i64 ((i : Nat) : Int))), (30, (.bool (decide (i < 16))))] (sc rfl (sc rfl (sc rfl (sc rfl (sc rfl (sc rfl sn)))))) ?_
      refine T_he [0, 1, 2, 3] [.blk g8 27 ((dig 8 16 (vw half + 2 * vw (List.set b 15 ((ath b 15) &&& 127#8)))).map b8), .blk g2 27 ((List.set b 15 ((ath b 15) &&& 127#8)).map b8), .blk g3 22 ((onek 2#8 half 16).map b8), .blk g1 27 (half.map b8)] ⟨by decide, rfl⟩ ?_
      refine T_cond (decide (i < 16)) rfl (fun hc_20 => ?_) (fun hc_20 => ?_)
      · skip
        have hc_20 := of_decide_eq_true hc_20
        refine T_skip ?_
        refine T_seq ?_
        refine T_block ?_
        refine T_seq ?_
        refine T_regD [.blk g8 27 ((dig 8 16 (vw half + 2 * vw (List.set b 15 ((ath b 15) &&& 127#8)))).map b8), .blk g2 27 ((List.set b 15 ((ath b 15) &&& 127#8)).map b8), .blk g3 22 ((onek 2#8 half 16).map b8), .blk g1 27 (half.map b8)] 13 13 #[false, false, false, false, false, false, false, false, false, false, false, false, false] hF (by kernel_rfl) (by kernel_rfl) ?_
        refine D_pure (i := 0) [0, 1, 2, 3] rfl (by kernel_rfl) rfl (pr_move rfl rfl) (.inr rfl) rfl rfl ?_
        refine D_pure (i := 1) [0, 1, 2, 3] rfl (by kernel_rfl) rfl (pr_move rfl rfl) (.inr rfl) rfl rfl ?_
        refine D_pure (i := 2) [0, 1, 2, 3] rfl (by kernel_rfl) rfl (pr_ixa (j := i) (m' := i) sd (by omega) Try.underlying27 (z := 1) (by kernel_rfl) rfl rfl rfl) (.inr rfl) rfl rfl ?_
        refine D_pure (i := 6) [0, 1, 2, 3] rfl (by kernel_rfl) rfl (pr_move rfl rfl) (.inr rfl) rfl rfl ?_
        refine D_pure (i := 7) [0, 1, 2, 3] rfl (by kernel_rfl) rfl (pr_ixa (j := i) (m' := i) sd (by omega) Try.underlying27 (z := 1) (by kernel_rfl) rfl rfl rfl) (.inr rfl) rfl rfl ?_
        refine D_take (i := 3) [0, 1, 2, 3] rfl (by kernel_rfl) rfl (ld_blk 3 rfl (get8 sd) Try.underlying5 rfl rfl rfl) rfl rfl rfl ?_
        refine D_pure (i := 4) [0, 1, 2, 3] rfl (by kernel_rfl) rfl (pr_cv (n8i ) Try.underlying5 Try.underlying3 rfl rfl) (.inr rfl) rfl rfl ?_
        refine D_pure (i := 5) [0, 1, 2, 3] rfl (by kernel_rfl) rfl (pr_add (na_i64 (a := (cq half (List.set b 15 ((ath b 15) &&& 127#8)) 2 i)) (b := (ath half i).toNat) sd) rfl rfl rfl) (.inr rfl) rfl rfl ?_
        refine D_take (i := 8) [0, 1, 2, 3] rfl (by kernel_rfl) rfl (ld_blk 1 rfl (get8 sd) Try.underlying5 rfl rfl rfl) rfl rfl rfl ?_
        refine D_pure (i := 9) [0, 1, 2, 3] rfl (by kernel_rfl) rfl (pr_cv (n8i ) Try.underlying5 Try.underlying3 rfl rfl) (.inr rfl) rfl rfl ?_
        refine D_pure (i := 10) [0, 1, 2, 3] rfl (by kernel_rfl) rfl (pr_mul (nm_i64 (a := 2) (b := (ath (List.set b 15 ((ath b 15) &&& 127#8)) i).toNat) sd) rfl rfl rfl) (.inr rfl) rfl rfl ?_
        refine D_pure (i := 11) [0, 1, 2, 3] rfl (by kernel_rfl) rfl (pr_add (na_i64 (a := (cq half (List.set b 15 ((ath b 15) &&& 127#8)) 2 i) + ((ath half i).toNat)) (b := 2 * ((ath (List.set b 15 ((ath b 15) &&& 127#8)) i).toNat)) sd) rfl rfl rfl) (.inr rfl) rfl rfl ?_
        refine D_pure (i := 12) [0, 1, 2, 3] rfl (by kernel_rfl) rfl (pr_assign rfl rfl) (.inr rfl) rfl rfl ?_
        refine D_done (by kernel_rfl) ?_
        refine T_re [(2, (.pointer (some ⟨g1, 0, none⟩))), (3, (.pointer (some ⟨g2, 0, none⟩))), (7, (.pointer (some ⟨g8, 0, none⟩))), (8, (.int .i64 (((cq half (List.set b 15 ((ath b 15) &&& 127#8)) 2 i) + ((ath half i).toNat) + (2 * ((ath (List.set b 15 ((ath b 15) &&& 127#8)) i).toNat)) : Nat) : Int))), (9, (.int .i64 ((i : Nat) : Int)))] (sc rfl (sc rfl (sc rfl (sc rfl (sc rfl sn))))) ?_
        refine T_he [0, 1, 2, 3] [.blk g8 27 ((dig 8 16 (vw half + 2 * vw (List.set b 15 ((ath b 15) &&& 127#8)))).map b8), .blk g2 27 ((List.set b 15 ((ath b 15) &&& 127#8)).map b8), .blk g3 22 ((onek 2#8 half 16).map b8), .blk g1 27 (half.map b8)] ⟨by decide, rfl⟩ ?_
        refine T_seq ?_
        refine T_seq ?_
        refine T_reg hF rfl ?_
        refine L_op rfl (op_pr (pr_move rfl rfl) rfl rfl ?_)
        refine L_op rfl (op_pr (pr_ixa (j := i) (m' := i) sd (by omega) Try.underlying27 (z := 1) (by kernel_rfl) rfl rfl rfl) rfl rfl ?_)
        refine L_op rfl (op_ld (ld_blk 0 rfl (get8 sd) Try.underlying5 rfl rfl rfl) rfl rfl ?_)
        refine L_op rfl (op_pr (pr_move rfl rfl) rfl rfl ?_)
        refine L_op rfl (op_pr (pr_cv (nw8 ((cq half (List.set b 15 ((ath b 15) &&& 127#8)) 2 i) + ((ath half i).toNat) + (2 * ((ath (List.set b 15 ((ath b 15) &&& 127#8)) i).toNat)))) Try.underlying3 Try.underlying5 rfl rfl) rfl rfl ?_)
        refine L_op rfl (op_pr (pr_cmp (bo := .neq) (n8_bne (ath (dig 8 16 (vw half + 2 * vw (List.set b 15 ((ath b 15) &&& 127#8)))) i) (BitVec.ofNat 8 ((cq half (List.set b 15 ((ath b 15) &&& 127#8)) 2 i) + ((ath half i).toNat) + (2 * ((ath (List.set b 15 ((ath b 15) &&& 127#8)) i).toNat))))) rfl rfl rfl rfl) rfl rfl ?_)
        refine L_nil ?_
        refine T_re [(2, (.pointer (some ⟨g1, 0, none⟩))), (3, (.pointer (some ⟨g2, 0, none⟩))), (7, (.pointer (some ⟨g8, 0, none⟩))), (8, (.int .i64 (((cq half (List.set b 15 ((ath b 15) &&& 127#8)) 2 i) + ((ath half i).toNat) + (2 * ((ath (List.set b 15 ((ath b 15) &&& 127#8)) i).toNat)) : Nat) : Int))), (9, (.int .i64 ((i : Nat) : Int))), (50, (.bool ((ath (dig 8 16 (vw half + 2 * vw (List.set b 15 ((ath b 15) &&& 127#8)))) i) != (BitVec.ofNat 8 ((cq half (List.set b 15 ((ath b 15) &&& 127#8)) 2 i) + ((ath half i).toNat) + (2 * ((ath (List.set b 15 ((ath b 15) &&& 127#8)) i).toNat)))))))] (sc rfl (sc rfl (sc rfl (sc rfl (sc rfl (sc rfl sn)))))) ?_
        refine T_he [0, 1, 2, 3] [.blk g8 27 ((dig 8 16 (vw half + 2 * vw (List.set b 15 ((ath b 15) &&& 127#8)))).map b8), .blk g2 27 ((List.set b 15 ((ath b 15) &&& 127#8)).map b8), .blk g3 22 ((onek 2#8 half 16).map b8), .blk g1 27 (half.map b8)] ⟨by decide, rfl⟩ ?_
        refine T_cond_no (t := ((ath (dig 8 16 (vw half + 2 * vw (List.set b 15 ((ath b 15) &&& 127#8)))) i) != (BitVec.ofNat 8 ((cq half (List.set b 15 ((ath b 15) &&& 127#8)) 2 i) + ((ath half i).toNat) + (2 * ((ath (List.set b 15 ((ath b 15) &&& 127#8)) i).toNat)))))) rfl (by rw [cq_dig half (List.set b 15 ((ath b 15) &&& 127#8)) 2 i 16 hh hb15 (by omega)]; simp) ?_
        refine T_skip ?_
        refine T_reg hF rfl ?_
        refine L_op rfl (op_pr (pr_move rfl rfl) rfl rfl ?_)
        refine L_op rfl (op_pr (pr_shift (nshr_i64 (a := (cq half (List.set b 15 ((ath b 15) &&& 127#8)) 2 i) + ((ath half i).toNat) + (2 * ((ath (List.set b 15 ((ath b 15) &&& 127#8)) i).toNat))) (m := 8) (by decide)) rfl rfl rfl rfl) rfl rfl ?_)
        refine L_op rfl (op_pr (pr_assign rfl rfl) rfl rfl ?_)
        refine L_nil ?_
        refine T_re [(2, (.pointer (some ⟨g1, 0, none⟩))), (3, (.pointer (some ⟨g2, 0, none⟩))), (7, (.pointer (some ⟨g8, 0, none⟩))), (8, (.int .i64 ((((cq half (List.set b 15 ((ath b 15) &&& 127#8)) 2 i) + ((ath half i).toNat) + (2 * ((ath (List.set b 15 ((ath b 15) &&& 127#8)) i).toNat))) / 256 : Nat) : Int))), (9, (.int .i64 ((i : Nat) : Int)))] (sc rfl (sc rfl (sc rfl (sc rfl (sc rfl sn))))) ?_
        refine T_he [0, 1, 2, 3] [.blk g8 27 ((dig 8 16 (vw half + 2 * vw (List.set b 15 ((ath b 15) &&& 127#8)))).map b8), .blk g2 27 ((List.set b 15 ((ath b 15) &&& 127#8)).map b8), .blk g3 22 ((onek 2#8 half 16).map b8), .blk g1 27 (half.map b8)] ⟨by decide, rfl⟩ ?_
        refine T_reg hF rfl ?_
        refine L_op rfl (op_pr (pr_move rfl rfl) rfl rfl ?_)
        refine L_op rfl (op_pr (pr_add (na_i64 (a := i) (b := 1) sd) rfl rfl rfl) rfl rfl ?_)
        refine L_op rfl (op_pr (pr_assign rfl rfl) rfl rfl ?_)
        refine L_nil ?_
        refine T_re [(2, (.pointer (some ⟨g1, 0, none⟩))), (3, (.pointer (some ⟨g2, 0, none⟩))), (7, (.pointer (some ⟨g8, 0, none⟩))), (8, (.int .i64 ((((cq half (List.set b 15 ((ath b 15) &&& 127#8)) 2 i) + ((ath half i).toNat) + (2 * ((ath (List.set b 15 ((ath b 15) &&& 127#8)) i).toNat))) / 256 : Nat) : Int))), (9, (.int .i64 ((i + 1 : Nat) : Int)))] (sc rfl (sc rfl (sc rfl (sc rfl (sc rfl sn))))) ?_
        refine T_he [0, 1, 2, 3] [.blk g8 27 ((dig 8 16 (vw half + 2 * vw (List.set b 15 ((ath b 15) &&& 127#8)))).map b8), .blk g2 27 ((List.set b 15 ((ath b 15) &&& 127#8)).map b8), .blk g3 22 ((onek 2#8 half 16).map b8), .blk g1 27 (half.map b8)] ⟨by decide, rfl⟩ ?_
        refine T_slot 8 (.int .i64 ((((cq half (List.set b 15 ((ath b 15) &&& 127#8)) 2 i) + ((ath half i).toNat) + (2 * ((ath (List.set b 15 ((ath b 15) &&& 127#8)) i).toNat))) / 256 : Nat) : Int)) (.int .i64 (((cq half (List.set b 15 ((ath b 15) &&& 127#8)) 2 (i + 1)) : Nat) : Int)) rfl (by rw [cq_succ half (List.set b 15 ((ath b 15) &&& 127#8)) 2 i (by omega) (by first | omega | (simp; omega))]) ?_
        exact T_again (i + 1) (by first | trivial | ((try dsimp only); first | omega | (refine ⟨?_, ?_⟩ <;> omega) | (refine ⟨?_, ?_, ?_⟩ <;> omega) | (simp; done) | (simp; omega))) (by first | trivial | ((try dsimp only); first | omega | (refine ⟨?_, ?_⟩ <;> omega) | (refine ⟨?_, ?_, ?_⟩ <;> omega) | (simp; done) | (simp; omega))) (sc rfl (sc rfl (sc rfl (sc rfl (sc rfl sn))))) [0, 1, 2, 3] ⟨by decide, rfl⟩
      · skip
        have hc_20 := of_decide_eq_false hc_20
        refine T_exit rfl ?_
        refine T_seq ?_
        refine T_reg hF rfl ?_
        refine L_op rfl (op_call0 (vs := []) (cap := []) (fun w hw => awake6_f  w (hok_nil w) ) (enters_of Try.func16 (by kernel_rfl) rfl) rfl rfl rfl rfl rfl (fun t21 q22 => ?_))
        refine L_op rfl (op_pr (pr_assign rfl rfl) rfl rfl ?_)
        refine L_nil ?_
        refine T_re [(4, (.bool true))] (sc rfl sn) ?_
        refine T_he [0, 1, 2, 3] [.blk g8 27 ((dig 8 16 (vw half + 2 * vw (List.set b 15 ((ath b 15) &&& 127#8)))).map b8), .blk g2 27 ((List.set b 15 ((ath b 15) &&& 127#8)).map b8), .blk g3 22 ((onek 2#8 half 16).map b8), .blk g1 27 (half.map b8)] ⟨by decide, rfl⟩ ?_
        refine T_ret ?_
        exact T_fin () (by first | trivial | omega | (simp; done)) (res1 rfl rfl) [] ⟨by decide, rfl⟩ rfl
set_option maxRecDepth 100000 in
set_option maxHeartbeats 4000000 in
theorem polyClamps_f (key : List (BitVec 8)) (b : List (BitVec 8)) (A : Option Addr) (n : Nat) (c : Nat) (w : World) (hO : HOK [.rd A 1 n c (b.map b8)] w) (hkl : key.length = 32) (hx : b.length = n) : Calls Try.prog 7 [(.agg (key.map b8).toArray), (.slice A n c)].toArray w (Ret (T := Unit) [] w (fun _ => True) (fun _ => (.bool true)) (fun _ => [])) := by
  have hkc := fun i h => kcl_len key i hkl h
  have hcl := clampb_len key
  have hpl := ptag_len key b
  have hF : Wid Fence.wide := wid_wide
  refine enter (c := _) Try.func7 rfl [] [(.agg (key.map b8).toArray), (.slice A n c)] [.rd A 1 n c (b.map b8)] (by rw [Try.ntmps7]; rfl) (own_rds hO rfl) ?_
  rw [Try.ntmps7]
  refine T_re [(0, (.agg (key.map b8).toArray)), (1, (.slice A n c))] (sc rfl (sc rfl sn)) ?_
  refine T_he [0] [.rd A 1 n c (b.map b8)] ⟨by decide, rfl⟩ ?_
  refine T_seq ?_
  refine T_reg hF rfl ?_
  refine L_op rfl (op_box (zs := (key.map b8)) rfl rfl rfl rfl rfl (fun g1 => ?_))
  refine L_op rfl (op_pr (pr_assign rfl rfl) rfl rfl ?_)
  refine L_nil ?_
  refine T_re [(1, (.slice A n c)), (2, (.pointer (some ⟨g1, 0, none⟩)))] (sc rfl (sc rfl sn)) ?_
  refine T_he [0, 1] [.blk g1 22 (key.map b8), .rd A 1 n c (b.map b8)] ⟨by decide, rfl⟩ ?_
  refine T_seq ?_
  refine T_seq ?_
  refine T_reg hF rfl ?_
  refine L_op rfl (op_pr (pr_move rfl rfl) rfl rfl ?_)
  refine L_op rfl (op_pr (pr_len_sl Try.underlying25 rfl rfl) rfl rfl ?_)
  refine L_op rfl (op_pr (pr_cmp (bo := .gtr) (nc_lt (a := 500) (b := n)) rfl rfl rfl rfl) rfl rfl ?_)
  refine L_nil ?_
  refine T_re [(1, (.slice A n c)), (2, (.pointer (some ⟨g1, 0, none⟩))), (10, (.bool (decide (500 < n))))] (sc rfl (sc rfl (sc rfl sn))) ?_
  refine T_he [0, 1] [.blk g1 22 (key.map b8), .rd A 1 n c (b.map b8)] ⟨by decide, rfl⟩ ?_
  refine T_cond (decide (500 < n)) rfl (fun hc_2 => ?_) (fun hc_2 => ?_)
  · skip
    have hc_2 := of_decide_eq_true hc_2
    refine T_seq ?_
    refine T_reg hF rfl ?_
    refine L_op rfl (op_call0 (vs := []) (cap := []) (fun w hw => awake6_f  w (hok_nil w) ) (enters_of Try.func16 (by kernel_rfl) rfl) rfl rfl rfl rfl rfl (fun t3 q4 => ?_))
    refine L_op rfl (op_pr (pr_assign rfl rfl) rfl rfl ?_)
    refine L_nil ?_
    refine T_re [(4, (.bool true))] (sc rfl sn) ?_
    refine T_he [0, 1] [.blk g1 22 (key.map b8), .rd A 1 n c (b.map b8)] ⟨by decide, rfl⟩ ?_
    refine T_ret ?_
    exact T_fin () (by first | trivial | omega | (simp; done)) (res1 rfl rfl) [] ⟨by decide, rfl⟩ rfl
  · skip
    have hc_2 := of_decide_eq_false hc_2
    refine T_skip ?_
    refine T_seq ?_
    refine T_reg hF rfl ?_
    refine L_op rfl (op_ld (ld_agg (ds := (key.map b8)) 0 rfl agg_all Try.underlying22 rfl (by rw [show ((key.map b8)).length = 32 from sd]; kernel_rfl) rfl rfl) rfl rfl ?_)
    refine L_op rfl (op_call0 (vs := [(.agg (key.map b8).toArray)]) (cap := []) (fun w hw => clamp_f key w (hok_nil w) sd) (enters_of Try.func20 (by kernel_rfl) rfl) rfl rfl rfl rfl rfl (fun t5 q6 => ?_))
    refine L_op rfl (op_alloc (z := .agg ((List.replicate 16 0#8).map b8).toArray) (zs := ((List.replicate 16 0#8).map b8)) (by kernel_rfl) rfl rfl rfl rfl (fun g7 => ?_))
    refine L_op rfl (op_store (vs := ((clampb key).map b8)) (cs' := ((clampb key).map b8)) 0 rfl rfl (by rw [show (((clampb key).map b8)).length = 16 from sd]; kernel_rfl) (all8_one _) (by have h1 : (((List.replicate 16 0#8).map b8)).length = 16 := (by kernel_rfl); have h2 : (((clampb key).map b8)).length = 16 := sd; omega) (splice_all (Eq.trans (b := 16) (by kernel_rfl) (Eq.symm sd))) rfl rfl rfl rfl ?_)
    refine L_nil ?_
    refine T_re [(1, (.slice A n c)), (2, (.pointer (some ⟨g1, 0, none⟩))), (5, (.pointer (some ⟨g7, 0, none⟩)))] (sc rfl (sc rfl (sc rfl sn))) ?_
    refine T_he [0, 1, 2] [.blk g7 27 ((clampb key).map b8), .blk g1 22 (key.map b8), .rd A 1 n c (b.map b8)] ⟨by decide, rfl⟩ ?_
    refine T_seq ?_
    refine T_reg hF rfl ?_
    refine L_op rfl (op_ld (ld_agg (ds := (key.map b8)) 1 rfl agg_all Try.underlying22 rfl (by rw [show ((key.map b8)).length = 32 from sd]; kernel_rfl) rfl rfl) rfl rfl ?_)
    refine L_op rfl (op_alloc (z := .agg ((List.replicate 32 0#8).map b8).toArray) (zs := ((List.replicate 32 0#8).map b8)) (by kernel_rfl) rfl rfl rfl rfl (fun g8 => ?_))
    refine L_op rfl (op_store (vs := (key.map b8)) (cs' := (key.map b8)) 0 rfl rfl (by rw [show ((key.map b8)).length = 32 from sd]; kernel_rfl) (all8_one _) (by have h1 : (((List.replicate 32 0#8).map b8)).length = 32 := (by kernel_rfl); have h2 : ((key.map b8)).length = 32 := sd; omega) (splice_all (Eq.trans (b := 32) (by kernel_rfl) (Eq.symm sd))) rfl rfl rfl rfl ?_)
    refine L_nil ?_
    refine T_re [(1, (.slice A n c)), (2, (.pointer (some ⟨g1, 0, none⟩))), (5, (.pointer (some ⟨g7, 0, none⟩))), (6, (.pointer (some ⟨g8, 0, none⟩)))] (sc rfl (sc rfl (sc rfl (sc rfl sn)))) ?_
    refine T_he [0, 1, 2, 3] [.blk g8 22 (key.map b8), .blk g7 27 ((clampb key).map b8), .blk g1 22 (key.map b8), .rd A 1 n c (b.map b8)] ⟨by decide, rfl⟩ ?_
    refine T_seq ?_
    refine T_seq ?_
    refine T_reg hF rfl ?_
    refine L_op rfl (op_pr (pr_assign rfl rfl) rfl rfl ?_)
    refine L_nil ?_
    refine T_re [(1, (.slice A n c)), (2, (.pointer (some ⟨g1, 0, none⟩))), (5, (.pointer (some ⟨g7, 0, none⟩))), (6, (.pointer (some ⟨g8, 0, none⟩))), (7, (.int .i64 ((0 : Nat) : Int)))] (sc rfl (sc rfl (sc rfl (sc rfl (sc rfl sn))))) ?_
    refine T_he [0, 1, 2, 3] [.blk g8 22 (key.map b8), .blk g7 27 ((clampb key).map b8), .blk g1 22 (key.map b8), .rd A 1 n c (b.map b8)] ⟨by decide, rfl⟩ ?_
    refine T_block ?_
    refine T_as 0 (.blk g8 22 (key.map b8)) (.blk g8 22 ((kcl key 0).map b8)) rfl (by rw [kcl_zero]) ?_
    refine T_loop (T := Nat) (fun i => i ≤ 16) (fun i => [(1, (.slice A n c)), (2, (.pointer (some ⟨g1, 0, none⟩))), (5, (.pointer (some ⟨g7, 0, none⟩))), (6, (.pointer (some ⟨g8, 0, none⟩))), (7, (.int .i64 ((i : Nat) : Int)))]) (fun i => [.blk g8 22 ((kcl key i).map b8), .blk g7 27 ((clampb key).map b8), .blk g1 22 (key.map b8), .rd A 1 n c (b.map b8)]) (fun i => 16 - i) 0 (by first | trivial | ((try dsimp only); first | omega | (refine ⟨?_, ?_⟩ <;> omega) | (refine ⟨?_, ?_, ?_⟩ <;> omega) | (simp; done) | (simp; omega))) (sc rfl (sc rfl (sc rfl (sc rfl (sc rfl sn))))) [0, 1, 2, 3] ⟨by decide, rfl⟩ ?_
    rintro i hp
    have hp : i ≤ 16 := hp
    have hki := hkc i hp
    refine T_re [(1, (.slice A n c)), (2, (.pointer (some ⟨g1, 0, none⟩))), (5, (.pointer (some ⟨g7, 0, none⟩))), (6, (.pointer (some ⟨g8, 0, none⟩))), (7, (.int .i64 ((i : Nat) : Int)))] (sc rfl (sc rfl (sc rfl (sc rfl (sc rfl sn))))) ?_
    refine T_he [0, 1, 2, 3] [.blk g8 22 ((kcl key i).map b8), .blk g7 27 ((clampb key).map b8), .blk g1 22 (key.map b8), .rd A 1 n c (b.map b8)] ⟨by decide, rfl⟩ ?_
    refine T_seq ?_
    refine T_seq ?_
    refine T_reg hF rfl ?_
    refine L_op rfl (op_pr (pr_move rfl rfl) rfl rfl ?_)
    refine L_op rfl (op_pr (pr_cmp (bo := .lss) (nc_lt (a := i) (b := 16)) rfl rfl rfl rfl) rfl rfl ?_)
    refine L_nil ?_
    refine T_re [(1, (.slice A n c)), (2, (.pointer (some ⟨g1, 0, none⟩))), (5, (.pointer (some ⟨g7, 0, none⟩))), (6, (.pointer (some ⟨g8, 0, none⟩))), (7, (.int .i64 ((i : Nat) : Int))), (16, (.bool (decide (i < 16))))] (sc rfl (sc rfl (sc rfl (sc rfl (sc rfl (sc rfl sn)))))) ?_
    refine T_he [0, 1, 2, 3] [.blk g8 22 ((kcl key i).map b8), .blk g7 27 ((clampb key).map b8), .blk g1 22 (key.map b8), .rd A 1 n c (b.map b8)] ⟨by decide, rfl⟩ ?_
    refine T_cond (decide (i < 16)) rfl (fun hc_9 => ?_) (fun hc_9 => ?_)
    · skip
      have hc_9 := of_decide_eq_true hc_9
      refine T_skip ?_
      refine T_seq ?_
      refine T_block ?_
      refine T_reg hF rfl ?_
      refine L_op rfl (op_pr (pr_move rfl rfl) rfl rfl ?_)
      refine L_op rfl (op_pr (pr_move rfl rfl) rfl rfl ?_)
      refine L_op rfl (op_pr (pr_ixa (j := i) (m' := i) sd (by omega) Try.underlying27 (z := 1) (by kernel_rfl) rfl rfl rfl) rfl rfl ?_)
      refine L_op rfl (op_ld (ld_blk 1 rfl (get8 sd) Try.underlying5 rfl rfl rfl) rfl rfl ?_)
      refine L_op rfl (op_pr (pr_ixa (j := i) (m' := i) sd (by omega) Try.underlying22 (z := 1) (by kernel_rfl) rfl rfl rfl) rfl rfl ?_)
      refine L_op rfl (op_store (vs := [(b8 (ath (clampb key) i))]) (cs' := ((List.set (kcl key i) i (ath (clampb key) i)).map b8)) 0 rfl rfl (by kernel_rfl) (one_one rfl) (by have : i < ((kcl key i)).length := sd; simp only [List.length_map, List.length_singleton]; omega) (splice_map (f := b8) sd) rfl rfl rfl rfl ?_)
      refine L_nil ?_
      refine T_re [(1, (.slice A n c)), (2, (.pointer (some ⟨g1, 0, none⟩))), (5, (.pointer (some ⟨g7, 0, none⟩))), (6, (.pointer (some ⟨g8, 0, none⟩))), (7, (.int .i64 ((i : Nat) : Int)))] (sc rfl (sc rfl (sc rfl (sc rfl (sc rfl sn))))) ?_
      refine T_he [0, 1, 2, 3] [.blk g8 22 ((List.set (kcl key i) i (ath (clampb key) i)).map b8), .blk g7 27 ((clampb key).map b8), .blk g1 22 (key.map b8), .rd A 1 n c (b.map b8)] ⟨by decide, rfl⟩ ?_
      refine T_reg hF rfl ?_
      refine L_op rfl (op_pr (pr_move rfl rfl) rfl rfl ?_)
      refine L_op rfl (op_pr (pr_add (na_i64 (a := i) (b := 1) sd) rfl rfl rfl) rfl rfl ?_)
      refine L_op rfl (op_pr (pr_assign rfl rfl) rfl rfl ?_)
      refine L_nil ?_
      refine T_re [(1, (.slice A n c)), (2, (.pointer (some ⟨g1, 0, none⟩))), (5, (.pointer (some ⟨g7, 0, none⟩))), (6, (.pointer (some ⟨g8, 0, none⟩))), (7, (.int .i64 ((i + 1 : Nat) : Int)))] (sc rfl (sc rfl (sc rfl (sc rfl (sc rfl sn))))) ?_
      refine T_he [0, 1, 2, 3] [.blk g8 22 ((List.set (kcl key i) i (ath (clampb key) i)).map b8), .blk g7 27 ((clampb key).map b8), .blk g1 22 (key.map b8), .rd A 1 n c (b.map b8)] ⟨by decide, rfl⟩ ?_
      refine T_as 0 (.blk g8 22 ((List.set (kcl key i) i (ath (clampb key) i)).map b8)) (.blk g8 22 ((kcl key (i + 1)).map b8)) rfl (by rw [kcl_set key i hkl (by omega)]) ?_
      exact T_again (i + 1) (by first | trivial | ((try dsimp only); first | omega | (refine ⟨?_, ?_⟩ <;> omega) | (refine ⟨?_, ?_, ?_⟩ <;> omega) | (simp; done) | (simp; omega))) (by first | trivial | ((try dsimp only); first | omega | (refine ⟨?_, ?_⟩ <;> omega) | (refine ⟨?_, ?_, ?_⟩ <;> omega) | (simp; done) | (simp; omega))) (sc rfl (sc rfl (sc rfl (sc rfl (sc rfl sn))))) [0, 1, 2, 3] ⟨by decide, rfl⟩
    · skip
      have hc_9 := of_decide_eq_false hc_9
      refine T_exit rfl ?_
      obtain rfl : 16 = i := by omega
      refine T_seq ?_
      refine T_regD [.blk g8 22 ((kcl key 16).map b8), .blk g7 27 ((clampb key).map b8), .blk g1 22 (key.map b8), .rd A 1 n c (b.map b8)] 19 19 #[false, false, false, false, false, false, false, false, false, false, false, false, false, false, false, false, false, false, false] hF (by kernel_rfl) (by kernel_rfl) ?_
      refine D_one 0 _ rfl (by kernel_rfl) rfl (op_call0 (vs := []) (cap := []) (fun w hw => awake6_f  w (hok_nil w) ) (enters_of Try.func16 (by kernel_rfl) rfl) rfl rfl rfl rfl rfl (fun t10 q11 => ?_))
      refine D_on [0, 1, 2, 3] rfl ?_
      refine D_pure (i := 1) [0, 1, 2, 3] rfl (by kernel_rfl) rfl (pr_move rfl rfl) (.inr rfl) rfl rfl ?_
      refine D_take (i := 2) [0, 1, 2, 3] rfl (by kernel_rfl) rfl (ld_agg (ds := ((kcl key 16).map b8)) 0 rfl agg_all Try.underlying22 rfl (by rw [show (((kcl key 16).map b8)).length = 32 from sd]; kernel_rfl) rfl rfl) rfl rfl rfl ?_
      refine D_take (i := 4) [0, 1, 2, 3] rfl (by kernel_rfl) rfl (ld_agg (ds := ((clampb key).map b8)) 1 rfl agg_all Try.underlying27 rfl (by rw [show (((clampb key).map b8)).length = 16 from sd]; kernel_rfl) rfl rfl) rfl rfl rfl ?_
      refine D_one 3 _ rfl (by kernel_rfl) rfl (op_call0 (vs := [(.agg ((kcl key 16).map b8).toArray)]) (cap := []) (fun w hw => clamp_f (kcl key 16) w (hok_nil w) sd) (enters_of Try.func20 (by kernel_rfl) rfl) rfl rfl rfl rfl rfl (fun t12 q13 => ?_))
      refine T_slot 27 (.agg ((clampb (kcl key 16)).map b8).toArray) (.agg ((clampb key).map b8).toArray) rfl (by rw [clampb_kcl]) ?_
      refine D_on [0, 1, 2, 3] rfl ?_
      refine D_pure (i := 5) [0, 1, 2, 3] rfl (by kernel_rfl) rfl (pr_eqagg (bo := .eql) (c := ((clampb key) == (clampb key))) (r := ((clampb key) == (clampb key))) (eqb8 (xs := (clampb key)) (ys := (clampb key)) Try.underlying27 Try.underlying5 (by kernel_rfl) sd sd) (by kernel_rfl) rfl rfl rfl rfl rfl) (.inr rfl) rfl rfl ?_
      refine D_pure (i := 6) [0, 1, 2, 3] rfl (by kernel_rfl) rfl (pr_pick_t rfl rfl rfl) (.inr rfl) rfl rfl ?_
      refine D_pure (i := 7) [0, 1, 2, 3] rfl (by kernel_rfl) rfl (pr_move rfl rfl) (.inr rfl) rfl rfl ?_
      refine T_slot 29 (.bool ((clampb key) == (clampb key))) (.bool true) rfl (congrArg _ (by simp)) ?_
      refine T_slot 30 (.bool ((clampb key) == (clampb key))) (.bool true) rfl (congrArg _ (by simp)) ?_
      refine T_slot 31 (.bool ((clampb key) == (clampb key))) (.bool true) rfl (congrArg _ (by simp)) ?_
      refine D_pure (i := 9) [0, 1, 2, 3] rfl (by kernel_rfl) rfl (pr_move rfl rfl) (.inr rfl) rfl rfl ?_
      refine D_pure (i := 13) [0, 1, 2, 3] rfl (by kernel_rfl) rfl (pr_move rfl rfl) (.inr rfl) rfl rfl ?_
      refine D_take (i := 8) [0, 1, 2, 3] rfl (by kernel_rfl) rfl (ld_agg (ds := ((kcl key 16).map b8)) 0 rfl agg_all Try.underlying22 rfl (by rw [show (((kcl key 16).map b8)).length = 32 from sd]; kernel_rfl) rfl rfl) rfl rfl rfl ?_
      refine D_take (i := 12) [0, 1, 2, 3] rfl (by kernel_rfl) rfl (ld_agg (ds := (key.map b8)) 2 rfl agg_all Try.underlying22 rfl (by rw [show ((key.map b8)).length = 32 from sd]; kernel_rfl) rfl rfl) rfl rfl rfl ?_
      refine D_join (T := Unit) (fun _ => True) (fun _ => [(4, (.bool ((ptag key b) == (ptag key b))))]) (fun _ => [.blk g8 22 ((kcl key 16).map b8), .blk g7 27 ((clampb key).map b8), .blk g1 22 (key.map b8), .rd A 1 n c (b.map b8)]) ?_ ?_
      · skip
        refine D_all [10, 14] (by kernel_rfl) (by simp) ⟨⟨_, rfl, rfl, ?_⟩, ⟨_, rfl, rfl, ?_⟩, trivial⟩
        · skip
          refine id (op_bslice (e := 25) (zs := [(.slice A n c)]) (qs := [(0, (.slice A n c))]) (fun _ => by kernel_rfl) rfl rfl rfl rfl (fun g20 => ?_))
          refine D_on [1, 2, 3, 4] rfl ?_
          refine D_all [11, 14] (by kernel_rfl) (by simp) ⟨⟨_, rfl, rfl, ?_⟩, ⟨_, rfl, rfl, ?_⟩, trivial⟩
          · skip
            refine id (op_call0 (vs := [(.agg ((kcl key 16).map b8).toArray), (.slice (some ⟨g20, 0, none⟩) 1 1)]) (cap := []) (fun w hw => ptag_f (kcl key 16) [(Pt.mk A n c b)] (some ⟨g20, 0, none⟩) 1 1 w (hok_cons ((src_full (z := 1) 0 rfl rfl sd sd) w hw) (hok_cons (all_cons ((src_rd 4 rfl) w hw) (all_nil w)) (hok_nil w))) sd sd sd (by first | assumption | omega | (simp only [c6_cons, c6_nil, List.append_nil, List.length_append]; omega) | (simp [c6_cons, c6_nil]; done) | (simp [c6_cons, c6_nil]; omega))) (enters_of Try.func18 (by kernel_rfl) rfl) rfl rfl rfl rfl rfl (fun t21 q22 => ?_))
            refine T_slot 35 (.agg ((ptag (kcl key 16) (catp [(Pt.mk A n c b)])).map b8).toArray) (.agg ((ptag key b).map b8).toArray) rfl (by rw [c6_one, ptag_kcl key b hkl]) ?_
            refine D_on [1, 2, 3, 4] rfl ?_
            refine D_one 14 _ rfl (by kernel_rfl) rfl (op_bslice (e := 25) (zs := [(.slice A n c)]) (qs := [(0, (.slice A n c))]) (fun _ => by kernel_rfl) rfl rfl rfl rfl (fun g23 => ?_))
            refine D_on [2, 3, 4, 5] rfl ?_
            refine D_one 15 _ rfl (by kernel_rfl) rfl (op_call0 (vs := [(.agg (key.map b8).toArray), (.slice (some ⟨g23, 0, none⟩) 1 1)]) (cap := []) (fun w hw => ptag_f key [(Pt.mk A n c b)] (some ⟨g23, 0, none⟩) 1 1 w (hok_cons ((src_full (z := 1) 0 rfl rfl sd sd) w hw) (hok_cons (all_cons ((src_rd 5 rfl) w hw) (all_nil w)) (hok_nil w))) sd sd sd (by first | assumption | omega | (simp only [c6_cons, c6_nil, List.append_nil, List.length_append]; omega) | (simp [c6_cons, c6_nil]; done) | (simp [c6_cons, c6_nil]; omega))) (enters_of Try.func18 (by kernel_rfl) rfl) rfl rfl rfl rfl rfl (fun t24 q25 => ?_))
            refine T_slot 39 (.agg ((ptag key (catp [(Pt.mk A n c b)])).map b8).toArray) (.agg ((ptag key b).map b8).toArray) rfl (by rw [c6_one]) ?_
            refine D_on [2, 3, 4, 5] rfl ?_
            refine D_pure (i := 16) [2, 3, 4, 5] rfl (by kernel_rfl) rfl (pr_eqagg (bo := .eql) (c := ((ptag key b) == (ptag key b))) (r := ((ptag key b) == (ptag key b))) (eqb8 (xs := (ptag key b)) (ys := (ptag key b)) Try.underlying27 Try.underlying5 (by kernel_rfl) sd sd) (by kernel_rfl) rfl rfl rfl rfl rfl) (.inr rfl) rfl rfl ?_
            refine D_pure (i := 17) [2, 3, 4, 5] rfl (by kernel_rfl) rfl (pr_pick_t rfl rfl rfl) (.inr rfl) rfl rfl ?_
            refine D_pure (i := 18) [2, 3, 4, 5] rfl (by kernel_rfl) rfl (pr_assign rfl rfl) (.inr rfl) rfl rfl ?_
            refine D_done (by kernel_rfl) ?_
            exact T_meet () trivial (sc rfl sn) [2, 3, 4, 5] ⟨by decide, rfl⟩
          · skip
            refine id (op_bslice (e := 25) (zs := [(.slice A n c)]) (qs := [(0, (.slice A n c))]) (fun _ => by kernel_rfl) rfl rfl rfl rfl (fun g26 => ?_))
            refine D_on [2, 3, 4, 5] rfl ?_
            refine D_one 11 _ rfl (by kernel_rfl) rfl (op_call0 (vs := [(.agg ((kcl key 16).map b8).toArray), (.slice (some ⟨g20, 0, none⟩) 1 1)]) (cap := []) (fun w hw => ptag_f (kcl key 16) [(Pt.mk A n c b)] (some ⟨g20, 0, none⟩) 1 1 w (hok_cons ((src_full (z := 1) 1 rfl rfl sd sd) w hw) (hok_cons (all_cons ((src_rd 5 rfl) w hw) (all_nil w)) (hok_nil w))) sd sd sd (by first | assumption | omega | (simp only [c6_cons, c6_nil, List.append_nil, List.length_append]; omega) | (simp [c6_cons, c6_nil]; done) | (simp [c6_cons, c6_nil]; omega))) (enters_of Try.func18 (by kernel_rfl) rfl) rfl rfl rfl rfl rfl (fun t27 q28 => ?_))
            refine T_slot 35 (.agg ((ptag (kcl key 16) (catp [(Pt.mk A n c b)])).map b8).toArray) (.agg ((ptag key b).map b8).toArray) rfl (by rw [c6_one, ptag_kcl key b hkl]) ?_
            refine D_on [2, 3, 4, 5] rfl ?_
            refine D_one 15 _ rfl (by kernel_rfl) rfl (op_call0 (vs := [(.agg (key.map b8).toArray), (.slice (some ⟨g26, 0, none⟩) 1 1)]) (cap := []) (fun w hw => ptag_f key [(Pt.mk A n c b)] (some ⟨g26, 0, none⟩) 1 1 w (hok_cons ((src_full (z := 1) 0 rfl rfl sd sd) w hw) (hok_cons (all_cons ((src_rd 5 rfl) w hw) (all_nil w)) (hok_nil w))) sd sd sd (by first | assumption | omega | (simp only [c6_cons, c6_nil, List.append_nil, List.length_append]; omega) | (simp [c6_cons, c6_nil]; done) | (simp [c6_cons, c6_nil]; omega))) (enters_of Try.func18 (by kernel_rfl) rfl) rfl rfl rfl rfl rfl (fun t29 q30 => ?_))
            refine T_slot 39 (.agg ((ptag key (catp [(Pt.mk A n c b)])).map b8).toArray) (.agg ((ptag key b).map b8).toArray) rfl (by rw [c6_one]) ?_
            refine D_on [2, 3, 4, 5] rfl ?_
            refine D_pure (i := 16) [2, 3, 4, 5] rfl (by kernel_rfl) rfl (pr_eqagg (bo := .eql) (c := ((ptag key b) == (ptag key b))) (r := ((ptag key b) == (ptag key b))) (eqb8 (xs := (ptag key b)) (ys := (ptag key b)) Try.underlying27 Try.underlying5 (by kernel_rfl) sd sd) (by kernel_rfl) rfl rfl rfl rfl rfl) (.inr rfl) rfl rfl ?_
            refine D_pure (i := 17) [2, 3, 4, 5] rfl (by kernel_rfl) rfl (pr_pick_t rfl rfl rfl) (.inr rfl) rfl rfl ?_
            refine D_pure (i := 18) [2, 3, 4, 5] rfl (by kernel_rfl) rfl (pr_assign rfl rfl) (.inr rfl) rfl rfl ?_
            refine D_done (by kernel_rfl) ?_
            exact T_meet () trivial (sc rfl sn) [2, 3, 4, 5] ⟨by decide, rfl⟩
        · skip
          refine id (op_bslice (e := 25) (zs := [(.slice A n c)]) (qs := [(0, (.slice A n c))]) (fun _ => by kernel_rfl) rfl rfl rfl rfl (fun g31 => ?_))
          refine D_on [1, 2, 3, 4] rfl ?_
          refine D_one 10 _ rfl (by kernel_rfl) rfl (op_bslice (e := 25) (zs := [(.slice A n c)]) (qs := [(0, (.slice A n c))]) (fun _ => by kernel_rfl) rfl rfl rfl rfl (fun g32 => ?_))
          refine D_on [2, 3, 4, 5] rfl ?_
          refine D_one 11 _ rfl (by kernel_rfl) rfl (op_call0 (vs := [(.agg ((kcl key 16).map b8).toArray), (.slice (some ⟨g32, 0, none⟩) 1 1)]) (cap := []) (fun w hw => ptag_f (kcl key 16) [(Pt.mk A n c b)] (some ⟨g32, 0, none⟩) 1 1 w (hok_cons ((src_full (z := 1) 0 rfl rfl sd sd) w hw) (hok_cons (all_cons ((src_rd 5 rfl) w hw) (all_nil w)) (hok_nil w))) sd sd sd (by first | assumption | omega | (simp only [c6_cons, c6_nil, List.append_nil, List.length_append]; omega) | (simp [c6_cons, c6_nil]; done) | (simp [c6_cons, c6_nil]; omega))) (enters_of Try.func18 (by kernel_rfl) rfl) rfl rfl rfl rfl rfl (fun t33 q34 => ?_))
          refine T_slot 35 (.agg ((ptag (kcl key 16) (catp [(Pt.mk A n c b)])).map b8).toArray) (.agg ((ptag key b).map b8).toArray) rfl (by rw [c6_one, ptag_kcl key b hkl]) ?_
          refine D_on [2, 3, 4, 5] rfl ?_
          refine D_one 15 _ rfl (by kernel_rfl) rfl (op_call0 (vs := [(.agg (key.map b8).toArray), (.slice (some ⟨g31, 0, none⟩) 1 1)]) (cap := []) (fun w hw => ptag_f key [(Pt.mk A n c b)] (some ⟨g31, 0, none⟩) 1 1 w (hok_cons ((src_full (z := 1) 1 rfl rfl sd sd) w hw) (hok_cons (all_cons ((src_rd 5 rfl) w hw) (all_nil w)) (hok_nil w))) sd sd sd (by first | assumption | omega | (simp only [c6_cons, c6_nil, List.append_nil, List.length_append]; omega) | (simp [c6_cons, c6_nil]; done) | (simp [c6_cons, c6_nil]; omega))) (enters_of Try.func18 (by kernel_rfl) rfl) rfl rfl rfl rfl rfl (fun t35 q36 => ?_))
          refine T_slot 39 (.agg ((ptag key (catp [(Pt.mk A n c b)])).map b8).toArray) (.agg ((ptag key b).map b8).toArray) rfl (by rw [c6_one]) ?_
          refine D_on [2, 3, 4, 5] rfl ?_
          refine D_pure (i := 16) [2, 3, 4, 5] rfl (by kernel_rfl) rfl (pr_eqagg (bo := .eql) (c := ((ptag key b) == (ptag key b))) (r := ((ptag key b) == (ptag key b))) (eqb8 (xs := (ptag key b)) (ys := (ptag key b)) Try.underlying27 Try.underlying5 (by kernel_rfl) sd sd) (by kernel_rfl) rfl rfl rfl rfl rfl) (.inr rfl) rfl rfl ?_
          refine D_pure (i := 17) [2, 3, 4, 5] rfl (by kernel_rfl) rfl (pr_pick_t rfl rfl rfl) (.inr rfl) rfl rfl ?_
          refine D_pure (i := 18) [2, 3, 4, 5] rfl (by kernel_rfl) rfl (pr_assign rfl rfl) (.inr rfl) rfl rfl ?_
          refine D_done (by kernel_rfl) ?_
          exact T_meet () trivial (sc rfl sn) [2, 3, 4, 5] ⟨by decide, rfl⟩
      · rintro ⟨⟩ -
        refine T_re [(4, (.bool ((ptag key b) == (ptag key b))))] (sc rfl sn) ?_
        refine T_he [0, 1, 2, 3] [.blk g8 22 ((kcl key 16).map b8), .blk g7 27 ((clampb key).map b8), .blk g1 22 (key.map b8), .rd A 1 n c (b.map b8)] ⟨by decide, rfl⟩ ?_
        refine T_ret ?_
        refine T_slot 4 (.bool ((ptag key b) == (ptag key b))) (.bool true) rfl (by simp) ?_
        exact T_fin () (by first | trivial | omega | (simp; done)) (res1 rfl rfl) [] ⟨by decide, rfl⟩ rfl
set_option maxRecDepth 100000 in
set_option maxHeartbeats 4000000 in
theorem polyParts_f (key : List (BitVec 8)) (b : List (BitVec 8)) (A : Option Addr) (n : Nat) (c : Nat) (z : Int) (w : World) (hO : HOK [.rd A 1 n c (b.map b8)] w) (hkl : key.length = 32) (hx : b.length = n) : Calls Try.prog 8 [(.agg (key.map b8).toArray), (.slice A n c), (.int .i64 z)].toArray w (Ret (T := Unit) [] w (fun _ => True) (fun _ => (.bool true)) (fun _ => [])) := by
  have hpl := ptag_len key b
  obtain ⟨kk, hkk⟩ : ∃ x : Nat, (BitVec.ofInt 64 z).toNat % (n + 1) = x := ⟨_, rfl⟩
  have hkl2 : kk ≤ n := by have := Nat.mod_lt ((BitVec.ofInt 64 z).toNat) (show 0 < n + 1 by omega); omega
  have hF : Wid Fence.wide := wid_wide
  refine enter (c := _) Try.func8 rfl [] [(.agg (key.map b8).toArray), (.slice A n c), (.int .i64 z)] [.rd A 1 n c (b.map b8)] (by rw [Try.ntmps8]; rfl) (own_rds hO rfl) ?_
  rw [Try.ntmps8]
  refine T_re [(0, (.agg (key.map b8).toArray)), (1, (.slice A n c)), (2, (.int .i64 z))] (sc rfl (sc rfl (sc rfl sn))) ?_
  refine T_he [0] [.rd A 1 n c (b.map b8)] ⟨by decide, rfl⟩ ?_
  refine T_seq ?_
  refine T_reg hF rfl ?_
  refine L_op rfl (op_box (zs := (key.map b8)) rfl rfl rfl rfl rfl (fun g1 => ?_))
  refine L_op rfl (op_pr (pr_assign rfl rfl) rfl rfl ?_)
  refine L_nil ?_
  refine T_re [(1, (.slice A n c)), (2, (.int .i64 z)), (3, (.pointer (some ⟨g1, 0, none⟩)))] (sc rfl (sc rfl (sc rfl sn))) ?_
  refine T_he [0, 1] [.blk g1 22 (key.map b8), .rd A 1 n c (b.map b8)] ⟨by decide, rfl⟩ ?_
  refine T_seq ?_
  refine T_seq ?_
  refine T_reg hF rfl ?_
  refine L_op rfl (op_pr (pr_move rfl rfl) rfl rfl ?_)
  refine L_op rfl (op_pr (pr_len_sl Try.underlying25 rfl rfl) rfl rfl ?_)
  refine L_op rfl (op_pr (pr_cmp (bo := .gtr) (nc_lt (a := 500) (b := n)) rfl rfl rfl rfl) rfl rfl ?_)
  refine L_nil ?_
  refine T_re [(1, (.slice A n c)), (2, (.int .i64 z)), (3, (.pointer (some ⟨g1, 0, none⟩))), (10, (.bool (decide (500 < n))))] (sc rfl (sc rfl (sc rfl (sc rfl sn)))) ?_
  refine T_he [0, 1] [.blk g1 22 (key.map b8), .rd A 1 n c (b.map b8)] ⟨by decide, rfl⟩ ?_
  refine T_cond (decide (500 < n)) rfl (fun hc_2 => ?_) (fun hc_2 => ?_)
  · skip
    have hc_2 := of_decide_eq_true hc_2
    refine T_seq ?_
    refine T_reg hF rfl ?_
    refine L_op rfl (op_call0 (vs := []) (cap := []) (fun w hw => awake6_f  w (hok_nil w) ) (enters_of Try.func16 (by kernel_rfl) rfl) rfl rfl rfl rfl rfl (fun t3 q4 => ?_))
    refine L_op rfl (op_pr (pr_assign rfl rfl) rfl rfl ?_)
    refine L_nil ?_
    refine T_re [(6, (.bool true))] (sc rfl sn) ?_
    refine T_he [0, 1] [.blk g1 22 (key.map b8), .rd A 1 n c (b.map b8)] ⟨by decide, rfl⟩ ?_
    refine T_ret ?_
    exact T_fin () (by first | trivial | omega | (simp; done)) (res1 rfl rfl) [] ⟨by decide, rfl⟩ rfl
  · skip
    have hc_2 := of_decide_eq_false hc_2
    refine T_skip ?_
    refine T_seq ?_
    refine T_reg hF rfl ?_
    refine L_op rfl (op_pr (pr_move rfl rfl) rfl rfl ?_)
    refine L_op rfl (op_pr (pr_cv (zc_u64 z) Try.underlying3 Try.underlying33 rfl rfl) rfl rfl ?_)
    refine L_op rfl (op_pr (pr_move rfl rfl) rfl rfl ?_)
    refine L_op rfl (op_pr (pr_len_sl Try.underlying25 rfl rfl) rfl rfl ?_)
    refine L_op rfl (op_pr (pr_add (na_i64 (a := n) (b := 1) sd) rfl rfl rfl) rfl rfl ?_)
    refine L_op rfl (op_pr (pr_cv (ni_u64 (a := n + 1) sd) Try.underlying3 Try.underlying33 rfl rfl) rfl rfl ?_)
    refine L_op rfl (op_pr (pr_rem (a := (BitVec.ofInt 64 z).toNat) (b := n + 1) sd rfl rfl rfl) rfl rfl ?_)
    refine L_op rfl (op_pr (pr_cv (ni_i64 (a := ((BitVec.ofInt 64 z).toNat) % (n + 1)) sd) Try.underlying33 Try.underlying3 rfl rfl) rfl rfl ?_)
    refine T_slot 19 (.int .i64 ((((BitVec.ofInt 64 z).toNat) % (n + 1) : Nat) : Int)) (.int .i64 ((kk : Nat) : Int)) rfl (by rw [hkk]) ?_
    refine L_op rfl (op_pr (pr_assign rfl rfl) rfl rfl ?_)
    refine L_nil ?_
    refine T_re [(1, (.slice A n c)), (3, (.pointer (some ⟨g1, 0, none⟩))), (7, (.int .i64 ((kk : Nat) : Int)))] (sc rfl (sc rfl (sc rfl sn))) ?_
    refine T_he [0, 1] [.blk g1 22 (key.map b8), .rd A 1 n c (b.map b8)] ⟨by decide, rfl⟩ ?_
    refine T_seq ?_
    refine T_regD [.blk g1 22 (key.map b8), .rd A 1 n c (b.map b8)] 29 29 #[false, false, false, false, false, false, false, false, false, false, false, false, false, false, false, false, false, false, false, false, false, false, false, false, false, false, false, false, false] hF (by kernel_rfl) (by kernel_rfl) ?_
    refine D_one 0 _ rfl (by kernel_rfl) rfl (op_call0 (vs := []) (cap := []) (fun w hw => awake6_f  w (hok_nil w) ) (enters_of Try.func16 (by kernel_rfl) rfl) rfl rfl rfl rfl rfl (fun t5 q6 => ?_))
    refine D_on [0, 1] rfl ?_
    refine D_pure (i := 1) [0, 1] rfl (by kernel_rfl) rfl (pr_move rfl rfl) (.inr rfl) rfl rfl ?_
    refine D_pure (i := 3) [0, 1] rfl (by kernel_rfl) rfl (pr_move rfl rfl) (.inr rfl) rfl rfl ?_
    refine D_pure (i := 4) [0, 1] rfl (by kernel_rfl) rfl (pr_move rfl rfl) (.inr rfl) rfl rfl ?_
    refine D_pure (i := 6) [0, 1] rfl (by kernel_rfl) rfl (pr_move rfl rfl) (.inr rfl) rfl rfl ?_
    refine D_pure (i := 7) [0, 1] rfl (by kernel_rfl) rfl (pr_move rfl rfl) (.inr rfl) rfl rfl ?_
    refine D_pure (i := 12) [0, 1] rfl (by kernel_rfl) rfl (pr_move rfl rfl) (.inr rfl) rfl rfl ?_
    refine D_take (i := 2) [0, 1] rfl (by kernel_rfl) rfl (ld_agg (ds := (key.map b8)) 0 rfl agg_all Try.underlying22 rfl (by rw [show ((key.map b8)).length = 32 from sd]; kernel_rfl) rfl rfl) rfl rfl rfl ?_
    refine D_take (i := 11) [0, 1] rfl (by kernel_rfl) rfl (ld_agg (ds := (key.map b8)) 0 rfl agg_all Try.underlying22 rfl (by rw [show ((key.map b8)).length = 32 from sd]; kernel_rfl) rfl rfl) rfl rfl rfl ?_
    refine D_join (T := Unit) (fun _ => True) (fun _ => [(6, (.bool ((ptag key b) == (ptag key b))))]) (fun _ => [.blk g1 22 (key.map b8), .rd A 1 n c (b.map b8)]) ?_ ?_
    · skip
      refine D_all [5, 8, 13] (by kernel_rfl) (by simp) ⟨⟨_, rfl, rfl, ?_⟩, ⟨_, rfl, rfl, ?_⟩, ⟨_, rfl, rfl, ?_⟩, trivial⟩
      · skip
        refine id (op_slice_rd (l := 0) (u := kk) 1 rfl sd sd Try.underlying25 (by kernel_rfl) rfl rfl rfl ⟨_, rfl⟩ rfl rfl (fun B21 => ?_))
        refine T_as 0 _ (.rd B21 1 kk c ((List.take kk b).map b8)) rfl (by congr 1; simp [List.map_take, List.map_drop] <;> omega) ?_
        refine T_slot 25 _ (.slice B21 kk c) rfl (by congr 1) ?_
        refine D_on [1, 2] rfl ?_
        refine D_all [8, 13] (by kernel_rfl) (by simp) ⟨⟨_, rfl, rfl, ?_⟩, ⟨_, rfl, rfl, ?_⟩, trivial⟩
        · skip
          refine id (op_slice_rd (l := kk) (u := n) 2 rfl sd sd Try.underlying25 (by kernel_rfl) rfl rfl ⟨_, rfl⟩ rfl rfl rfl (fun B22 => ?_))
          refine T_as 0 _ (.rd B22 1 (n - kk) (c - kk) ((List.drop kk b).map b8)) rfl (by congr 1; first | rfl | (rw [List.take_of_length_le (by simp; omega)]; simp)) ?_
          refine D_on [2, 3] rfl ?_
          refine D_all [9, 13] (by kernel_rfl) (by simp) ⟨⟨_, rfl, rfl, ?_⟩, ⟨_, rfl, rfl, ?_⟩, trivial⟩
          · skip
            refine id (op_bslice (e := 25) (zs := [(.slice B21 kk c), (.slice B22 (n - kk) (c - kk))]) (qs := [(0, (.slice B21 kk c)), (1, (.slice B22 (n - kk) (c - kk)))]) (fun _ => by kernel_rfl) rfl rfl rfl rfl (fun g23 => ?_))
            refine D_on [3, 4] rfl ?_
            refine D_all [10, 13] (by kernel_rfl) (by simp) ⟨⟨_, rfl, rfl, ?_⟩, ⟨_, rfl, rfl, ?_⟩, trivial⟩
            · skip
              refine id (op_call0 (vs := [(.agg (key.map b8).toArray), (.slice (some ⟨g23, 0, none⟩) 2 2)]) (cap := []) (fun w hw => ptag_f key [(Pt.mk B21 kk c (List.take kk b)), (Pt.mk B22 (n - kk) (c - kk) (List.drop kk b))] (some ⟨g23, 0, none⟩) 2 2 w (hok_cons ((src_full (z := 1) 0 rfl rfl sd sd) w hw) (hok_cons (all_cons ((src_rd 2 rfl) w hw) (all_cons ((src_rd 1 rfl) w hw) (all_nil w))) (hok_nil w))) sd sd sd (by first | assumption | omega | (simp only [c6_cons, c6_nil, List.append_nil, List.length_append]; omega) | (simp [c6_cons, c6_nil]; done) | (simp [c6_cons, c6_nil]; omega))) (enters_of Try.func18 (by kernel_rfl) rfl) rfl rfl rfl rfl rfl (fun t24 q25 => ?_))
              refine T_slot 30 (.agg ((ptag key (catp [(Pt.mk B21 kk c (List.take kk b)), (Pt.mk B22 (n - kk) (c - kk) (List.drop kk b))])).map b8).toArray) (.agg ((ptag key b).map b8).toArray) rfl (by rw [c6_two]) ?_
              refine D_on [3, 4] rfl ?_
              refine D_one 13 _ rfl (by kernel_rfl) rfl (op_bslice (e := 25) (zs := [(.slice A n c)]) (qs := [(0, (.slice A n c))]) (fun _ => by kernel_rfl) rfl rfl rfl rfl (fun g26 => ?_))
              refine D_on [4, 5] rfl ?_
              refine D_one 14 _ rfl (by kernel_rfl) rfl (op_call0 (vs := [(.agg (key.map b8).toArray), (.slice (some ⟨g26, 0, none⟩) 1 1)]) (cap := []) (fun w hw => ptag_f key [(Pt.mk A n c b)] (some ⟨g26, 0, none⟩) 1 1 w (hok_cons ((src_full (z := 1) 0 rfl rfl sd sd) w hw) (hok_cons (all_cons ((src_rd 5 rfl) w hw) (all_nil w)) (hok_nil w))) sd sd sd (by first | assumption | omega | (simp only [c6_cons, c6_nil, List.append_nil, List.length_append]; omega) | (simp [c6_cons, c6_nil]; done) | (simp [c6_cons, c6_nil]; omega))) (enters_of Try.func18 (by kernel_rfl) rfl) rfl rfl rfl rfl rfl (fun t27 q28 => ?_))
              refine T_slot 34 (.agg ((ptag key (catp [(Pt.mk A n c b)])).map b8).toArray) (.agg ((ptag key b).map b8).toArray) rfl (by rw [c6_one]) ?_
              refine D_on [4, 5] rfl ?_
              refine D_pure (i := 15) [4, 5] rfl (by kernel_rfl) rfl (pr_eqagg (bo := .eql) (c := ((ptag key b) == (ptag key b))) (r := ((ptag key b) == (ptag key b))) (eqb8 (xs := (ptag key b)) (ys := (ptag key b)) Try.underlying27 Try.underlying5 (by kernel_rfl) sd sd) (by kernel_rfl) rfl rfl rfl rfl rfl) (.inr rfl) rfl rfl ?_
              refine D_pure (i := 16) [4, 5] rfl (by kernel_rfl) rfl (pr_pick_t rfl rfl rfl) (.inr rfl) rfl rfl ?_
              refine D_pure (i := 17) [4, 5] rfl (by kernel_rfl) rfl (pr_move rfl rfl) (.inr rfl) rfl rfl ?_
              refine T_slot 35 (.bool ((ptag key b) == (ptag key b))) (.bool true) rfl (congrArg _ (by simp)) ?_
              refine T_slot 36 (.bool ((ptag key b) == (ptag key b))) (.bool true) rfl (congrArg _ (by simp)) ?_
              refine T_slot 37 (.bool ((ptag key b) == (ptag key b))) (.bool true) rfl (congrArg _ (by simp)) ?_
              refine D_pure (i := 19) [4, 5] rfl (by kernel_rfl) rfl (pr_move rfl rfl) (.inr rfl) rfl rfl ?_
              refine D_pure (i := 23) [4, 5] rfl (by kernel_rfl) rfl (pr_move rfl rfl) (.inr rfl) rfl rfl ?_
              refine D_take (i := 18) [4, 5] rfl (by kernel_rfl) rfl (ld_agg (ds := (key.map b8)) 0 rfl agg_all Try.underlying22 rfl (by rw [show ((key.map b8)).length = 32 from sd]; kernel_rfl) rfl rfl) rfl rfl rfl ?_
              refine D_take (i := 22) [4, 5] rfl (by kernel_rfl) rfl (ld_agg (ds := (key.map b8)) 0 rfl agg_all Try.underlying22 rfl (by rw [show ((key.map b8)).length = 32 from sd]; kernel_rfl) rfl rfl) rfl rfl rfl ?_
              refine D_all [20, 24] (by kernel_rfl) (by simp) ⟨⟨_, rfl, rfl, ?_⟩, ⟨_, rfl, rfl, ?_⟩, trivial⟩
              · skip
                refine id (op_bslice (e := 25) (zs := [(.slice none 0 0), (.slice A n c), (.slice none 0 0)]) (qs := [(0, (.slice none 0 0)), (1, (.slice A n c)), (2, (.slice none 0 0))]) (fun _ => by kernel_rfl) rfl rfl rfl rfl (fun g29 => ?_))
                refine D_on [5, 6] rfl ?_
                refine D_all [21, 24] (by kernel_rfl) (by simp) ⟨⟨_, rfl, rfl, ?_⟩, ⟨_, rfl, rfl, ?_⟩, trivial⟩
                · skip
                  refine id (op_call0 (vs := [(.agg (key.map b8).toArray), (.slice (some ⟨g29, 0, none⟩) 3 3)]) (cap := []) (fun w hw => ptag_f key ([(Pt.mk none 0 0 []), (Pt.mk A n c b), (Pt.mk none 0 0 [])]) (some ⟨g29, 0, none⟩) 3 3 w (hok_cons ((src_full (z := 1) 0 rfl rfl sd sd) w hw) (hok_cons (all_cons ((src_nil 1) w hw) (all_cons ((src_rd 6 rfl) w hw) (all_cons ((src_nil 1) w hw) (all_nil w)))) (hok_nil w))) sd sd sd (by first | assumption | omega | (simp only [c6_cons, c6_nil, List.append_nil, List.length_append]; omega) | (simp [c6_cons, c6_nil]; done) | (simp [c6_cons, c6_nil]; omega))) (enters_of Try.func18 (by kernel_rfl) rfl) rfl rfl rfl rfl rfl (fun t30 q31 => ?_))
                  refine T_slot 41 (.agg ((ptag key (catp ([(Pt.mk none 0 0 []), (Pt.mk A n c b), (Pt.mk none 0 0 [])]))).map b8).toArray) (.agg ((ptag key b).map b8).toArray) rfl (by rw [c6_mid]) ?_
                  refine D_on [5, 6] rfl ?_
                  refine D_one 24 _ rfl (by kernel_rfl) rfl (op_bslice (e := 25) (zs := [(.slice A n c)]) (qs := [(0, (.slice A n c))]) (fun _ => by kernel_rfl) rfl rfl rfl rfl (fun g32 => ?_))
                  refine D_on [6, 7] rfl ?_
                  refine D_one 25 _ rfl (by kernel_rfl) rfl (op_call0 (vs := [(.agg (key.map b8).toArray), (.slice (some ⟨g32, 0, none⟩) 1 1)]) (cap := []) (fun w hw => ptag_f key [(Pt.mk A n c b)] (some ⟨g32, 0, none⟩) 1 1 w (hok_cons ((src_full (z := 1) 0 rfl rfl sd sd) w hw) (hok_cons (all_cons ((src_rd 7 rfl) w hw) (all_nil w)) (hok_nil w))) sd sd sd (by first | assumption | omega | (simp only [c6_cons, c6_nil, List.append_nil, List.length_append]; omega) | (simp [c6_cons, c6_nil]; done) | (simp [c6_cons, c6_nil]; omega))) (enters_of Try.func18 (by kernel_rfl) rfl) rfl rfl rfl rfl rfl (fun t33 q34 => ?_))
                  refine T_slot 45 (.agg ((ptag key (catp [(Pt.mk A n c b)])).map b8).toArray) (.agg ((ptag key b).map b8).toArray) rfl (by rw [c6_one]) ?_
                  refine D_on [6, 7] rfl ?_
                  refine D_pure (i := 26) [6, 7] rfl (by kernel_rfl) rfl (pr_eqagg (bo := .eql) (c := ((ptag key b) == (ptag key b))) (r := ((ptag key b) == (ptag key b))) (eqb8 (xs := (ptag key b)) (ys := (ptag key b)) Try.underlying27 Try.underlying5 (by kernel_rfl) sd sd) (by kernel_rfl) rfl rfl rfl rfl rfl) (.inr rfl) rfl rfl ?_
                  refine D_pure (i := 27) [6, 7] rfl (by kernel_rfl) rfl (pr_pick_t rfl rfl rfl) (.inr rfl) rfl rfl ?_
                  refine D_pure (i := 28) [6, 7] rfl (by kernel_rfl) rfl (pr_assign rfl rfl) (.inr rfl) rfl rfl ?_
                  refine D_done (by kernel_rfl) ?_
                  exact T_meet () trivial (sc rfl sn) [6, 7] ⟨by decide, rfl⟩
                · skip
                  refine id (op_bslice (e := 25) (zs := [(.slice A n c)]) (qs := [(0, (.slice A n c))]) (fun _ => by kernel_rfl) rfl rfl rfl rfl (fun g35 => ?_))
                  refine D_on [6, 7] rfl ?_
                  refine D_one 21 _ rfl (by kernel_rfl) rfl (op_call0 (vs := [(.agg (key.map b8).toArray), (.slice (some ⟨g29, 0, none⟩) 3 3)]) (cap := []) (fun w hw => ptag_f key ([(Pt.mk none 0 0 []), (Pt.mk A n c b), (Pt.mk none 0 0 [])]) (some ⟨g29, 0, none⟩) 3 3 w (hok_cons ((src_full (z := 1) 1 rfl rfl sd sd) w hw) (hok_cons (all_cons ((src_nil 1) w hw) (all_cons ((src_rd 7 rfl) w hw) (all_cons ((src_nil 1) w hw) (all_nil w)))) (hok_nil w))) sd sd sd (by first | assumption | omega | (simp only [c6_cons, c6_nil, List.append_nil, List.length_append]; omega) | (simp [c6_cons, c6_nil]; done) | (simp [c6_cons, c6_nil]; omega))) (enters_of Try.func18 (by kernel_rfl) rfl) rfl rfl rfl rfl rfl (fun t36 q37 => ?_))
                  refine T_slot 41 (.agg ((ptag key (catp ([(Pt.mk none 0 0 []), (Pt.mk A n c b), (Pt.mk none 0 0 [])]))).map b8).toArray) (.agg ((ptag key b).map b8).toArray) rfl (by rw [c6_mid]) ?_
                  refine D_on [6, 7] rfl ?_
                  refine D_one 25 _ rfl (by kernel_rfl) rfl (op_call0 (vs := [(.agg (key.map b8).toArray), (.slice (some ⟨g35, 0, none⟩) 1 1)]) (cap := []) (fun w hw => ptag_f key [(Pt.mk A n c b)] (some ⟨g35, 0, none⟩) 1 1 w (hok_cons ((src_full (z := 1) 0 rfl rfl sd sd) w hw) (hok_cons (all_cons ((src_rd 7 rfl) w hw) (all_nil w)) (hok_nil w))) sd sd sd (by first | assumption | omega | (simp only [c6_cons, c6_nil, List.append_nil, List.length_append]; omega) | (simp [c6_cons, c6_nil]; done) | (simp [c6_cons, c6_nil]; omega))) (enters_of Try.func18 (by kernel_rfl) rfl) rfl rfl rfl rfl rfl (fun t38 q39 => ?_))
                  refine T_slot 45 (.agg ((ptag key (catp [(Pt.mk A n c b)])).map b8).toArray) (.agg ((ptag key b).map b8).toArray) rfl (by rw [c6_one]) ?_
                  refine D_on [6, 7] rfl ?_
                  refine D_pure (i := 26) [6, 7] rfl (by kernel_rfl) rfl (pr_eqagg (bo := .eql) (c := ((ptag key b) == (ptag key b))) (r := ((ptag key b) == (ptag key b))) (eqb8 (xs := (ptag key b)) (ys := (ptag key b)) Try.underlying27 Try.underlying5 (by kernel_rfl) sd sd) (by kernel_rfl) rfl rfl rfl rfl rfl) (.inr rfl) rfl rfl ?_
                  refine D_pure (i := 27) [6, 7] rfl (by kernel_rfl) rfl (pr_pick_t rfl rfl rfl) (.inr rfl) rfl rfl ?_
                  refine D_pure (i := 28) [6, 7] rfl (by kernel_rfl) rfl (pr_assign rfl rfl) (.inr rfl) rfl rfl ?_
                  refine D_done (by kernel_rfl) ?_
                  exact T_meet () trivial (sc rfl sn) [6, 7] ⟨by decide, rfl⟩
              · skip
                refine id (op_bslice (e := 25) (zs := [(.slice A n c)]) (qs := [(0, (.slice A n c))]) (fun _ => by kernel_rfl) rfl rfl rfl rfl (fun g40 => ?_))
                refine D_on [5, 6] rfl ?_
                refine D_one 20 _ rfl (by kernel_rfl) rfl (op_bslice (e := 25) (zs := [(.slice none 0 0), (.slice A n c), (.slice none 0 0)]) (qs := [(0, (.slice none 0 0)), (1, (.slice A n c)), (2, (.slice none 0 0))]) (fun _ => by kernel_rfl) rfl rfl rfl rfl (fun g41 => ?_))
                refine D_on [6, 7] rfl ?_
                refine D_one 21 _ rfl (by kernel_rfl) rfl (op_call0 (vs := [(.agg (key.map b8).toArray), (.slice (some ⟨g41, 0, none⟩) 3 3)]) (cap := []) (fun w hw => ptag_f key ([(Pt.mk none 0 0 []), (Pt.mk A n c b), (Pt.mk none 0 0 [])]) (some ⟨g41, 0, none⟩) 3 3 w (hok_cons ((src_full (z := 1) 0 rfl rfl sd sd) w hw) (hok_cons (all_cons ((src_nil 1) w hw) (all_cons ((src_rd 7 rfl) w hw) (all_cons ((src_nil 1) w hw) (all_nil w)))) (hok_nil w))) sd sd sd (by first | assumption | omega | (simp only [c6_cons, c6_nil, List.append_nil, List.length_append]; omega) | (simp [c6_cons, c6_nil]; done) | (simp [c6_cons, c6_nil]; omega))) (enters_of Try.func18 (by kernel_rfl) rfl) rfl rfl rfl rfl rfl (fun t42 q43 => ?_))
                refine T_slot 41 (.agg ((ptag key (catp ([(Pt.mk none 0 0 []), (Pt.mk A n c b), (Pt.mk none 0 0 [])]))).map b8).toArray) (.agg ((ptag key b).map b8).toArray) rfl (by rw [c6_mid]) ?_
                refine D_on [6, 7] rfl ?_
                refine D_one 25 _ rfl (by kernel_rfl) rfl (op_call0 (vs := [(.agg (key.map b8).toArray), (.slice (some ⟨g40, 0, none⟩) 1 1)]) (cap := []) (fun w hw => ptag_f key [(Pt.mk A n c b)] (some ⟨g40, 0, none⟩) 1 1 w (hok_cons ((src_full (z := 1) 1 rfl rfl sd sd) w hw) (hok_cons (all_cons ((src_rd 7 rfl) w hw) (all_nil w)) (hok_nil w))) sd sd sd (by first | assumption | omega | (simp only [c6_cons, c6_nil, List.append_nil, List.length_append]; omega) | (simp [c6_cons, c6_nil]; done) | (simp [c6_cons, c6_nil]; omega))) (enters_of Try.func18 (by kernel_rfl) rfl) rfl rfl rfl rfl rfl (fun t44 q45 => ?_))
                refine T_slot 45 (.agg ((ptag key (catp [(Pt.mk A n c b)])).map b8).toArray) (.agg ((ptag key b).map b8).toArray) rfl (by rw [c6_one]) ?_
                refine D_on [6, 7] rfl ?_
                refine D_pure (i := 26) [6, 7] rfl (by kernel_rfl) rfl (pr_eqagg (bo := .eql) (c := ((ptag key b) == (ptag key b))) (r := ((ptag key b) == (ptag key b))) (eqb8 (xs := (ptag key b)) (ys := (ptag key b)) Try.underlying27 Try.underlying5 (by kernel_rfl) sd sd) (by kernel_rfl) rfl rfl rfl rfl rfl) (.inr rfl) rfl rfl ?_
                refine D_pure (i := 27) [6, 7] rfl (by kernel_rfl) rfl (pr_pick_t rfl rfl rfl) (.inr rfl) rfl rfl ?_
                refine D_pure (i := 28) [6, 7] rfl (by kernel_rfl) rfl (pr_assign rfl rfl) (.inr rfl) rfl rfl ?_
                refine D_done (by kernel_rfl) ?_
                exact T_meet () trivial (sc rfl sn) [6, 7] ⟨by decide, rfl⟩
            · skip
              refine id (op_bslice (e := 25) (zs := [(.slice A n c)]) (qs := [(0, (.slice A n c))]) (fun _ => by kernel_rfl) rfl rfl rfl rfl (fun g46 => ?_))
              refine D_on [4, 5] rfl ?_
              refine D_one 10 _ rfl (by kernel_rfl) rfl (op_call0 (vs := [(.agg (key.map b8).toArray), (.slice (some ⟨g23, 0, none⟩) 2 2)]) (cap := []) (fun w hw => ptag_f key [(Pt.mk B21 kk c (List.take kk b)), (Pt.mk B22 (n - kk) (c - kk) (List.drop kk b))] (some ⟨g23, 0, none⟩) 2 2 w (hok_cons ((src_full (z := 1) 1 rfl rfl sd sd) w hw) (hok_cons (all_cons ((src_rd 3 rfl) w hw) (all_cons ((src_rd 2 rfl) w hw) (all_nil w))) (hok_nil w))) sd sd sd (by first | assumption | omega | (simp only [c6_cons, c6_nil, List.append_nil, List.length_append]; omega) | (simp [c6_cons, c6_nil]; done) | (simp [c6_cons, c6_nil]; omega))) (enters_of Try.func18 (by kernel_rfl) rfl) rfl rfl rfl rfl rfl (fun t47 q48 => ?_))
              refine T_slot 30 (.agg ((ptag key (catp [(Pt.mk B21 kk c (List.take kk b)), (Pt.mk B22 (n - kk) (c - kk) (List.drop kk b))])).map b8).toArray) (.agg ((ptag key b).map b8).toArray) rfl (by rw [c6_two]) ?_
              refine D_on [4, 5] rfl ?_
              refine D_one 14 _ rfl (by kernel_rfl) rfl (op_call0 (vs := [(.agg (key.map b8).toArray), (.slice (some ⟨g46, 0, none⟩) 1 1)]) (cap := []) (fun w hw => ptag_f key [(Pt.mk A n c b)] (some ⟨g46, 0, none⟩) 1 1 w (hok_cons ((src_full (z := 1) 0 rfl rfl sd sd) w hw) (hok_cons (all_cons ((src_rd 5 rfl) w hw) (all_nil w)) (hok_nil w))) sd sd sd (by first | assumption | omega | (simp only [c6_cons, c6_nil, List.append_nil, List.length_append]; omega) | (simp [c6_cons, c6_nil]; done) | (simp [c6_cons, c6_nil]; omega))) (enters_of Try.func18 (by kernel_rfl) rfl) rfl rfl rfl rfl rfl (fun t49 q50 => ?_))
              refine T_slot 34 (.agg ((ptag key (catp [(Pt.mk A n c b)])).map b8).toArray) (.agg ((ptag key b).map b8).toArray) rfl (by rw [c6_one]) ?_
              refine D_on [4, 5] rfl ?_
              refine D_pure (i := 15) [4, 5] rfl (by kernel_rfl) rfl (pr_eqagg (bo := .eql) (c := ((ptag key b) == (ptag key b))) (r := ((ptag key b) == (ptag key b))) (eqb8 (xs := (ptag key b)) (ys := (ptag key b)) Try.underlying27 Try.underlying5 (by kernel_rfl) sd sd) (by kernel_rfl) rfl rfl rfl rfl rfl) (.inr rfl) rfl rfl ?_
              refine D_pure (i := 16) [4, 5] rfl (by kernel_rfl) rfl (pr_pick_t rfl rfl rfl) (.inr rfl) rfl rfl ?_
              refine D_pure (i := 17) [4, 5] rfl (by kernel_rfl) rfl (pr_move rfl rfl) (.inr rfl) rfl rfl ?_
              refine T_slot 35 (.bool ((ptag key b) == (ptag key b))) (.bool true) rfl (congrArg _ (by simp)) ?_
              refine T_slot 36 (.bool ((ptag key b) == (ptag key b))) (.bool true) rfl (congrArg _ (by simp)) ?_
              refine T_slot 37 (.bool ((ptag key b) == (ptag key b))) (.bool true) rfl (congrArg _ (by simp)) ?_
              refine D_pure (i := 19) [4, 5] rfl (by kernel_rfl) rfl (pr_move rfl rfl) (.inr rfl) rfl rfl ?_
              refine D_pure (i := 23) [4, 5] rfl (by kernel_rfl) rfl (pr_move rfl rfl) (.inr rfl) rfl rfl ?_
              refine D_take (i := 18) [4, 5] rfl (by kernel_rfl) rfl (ld_agg (ds := (key.map b8)) 0 rfl agg_all Try.underlying22 rfl (by rw [show ((key.map b8)).length = 32 from sd]; kernel_rfl) rfl rfl) rfl rfl rfl ?_
              refine D_take (i := 22) [4, 5] rfl (by kernel_rfl) rfl (ld_agg (ds := (key.map b8)) 0 rfl agg_all Try.underlying22 rfl (by rw [show ((key.map b8)).length = 32 from sd]; kernel_rfl) rfl rfl) rfl rfl rfl ?_
              refine D_all [20, 24] (by kernel_rfl) (by simp) ⟨⟨_, rfl, rfl, ?_⟩, ⟨_, rfl, rfl, ?_⟩, trivial⟩
              · skip
                refine id (op_bslice (e := 25) (zs := [(.slice none 0 0), (.slice A n c), (.slice none 0 0)]) (qs := [(0, (.slice none 0 0)), (1, (.slice A n c)), (2, (.slice none 0 0))]) (fun _ => by kernel_rfl) rfl rfl rfl rfl (fun g51 => ?_))
                refine D_on [5, 6] rfl ?_
                refine D_all [21, 24] (by kernel_rfl) (by simp) ⟨⟨_, rfl, rfl, ?_⟩, ⟨_, rfl, rfl, ?_⟩, trivial⟩
                · skip
                  refine id (op_call0 (vs := [(.agg (key.map b8).toArray), (.slice (some ⟨g51, 0, none⟩) 3 3)]) (cap := []) (fun w hw => ptag_f key ([(Pt.mk none 0 0 []), (Pt.mk A n c b), (Pt.mk none 0 0 [])]) (some ⟨g51, 0, none⟩) 3 3 w (hok_cons ((src_full (z := 1) 0 rfl rfl sd sd) w hw) (hok_cons (all_cons ((src_nil 1) w hw) (all_cons ((src_rd 6 rfl) w hw) (all_cons ((src_nil 1) w hw) (all_nil w)))) (hok_nil w))) sd sd sd (by first | assumption | omega | (simp only [c6_cons, c6_nil, List.append_nil, List.length_append]; omega) | (simp [c6_cons, c6_nil]; done) | (simp [c6_cons, c6_nil]; omega))) (enters_of Try.func18 (by kernel_rfl) rfl) rfl rfl rfl rfl rfl (fun t52 q53 => ?_))
                  refine T_slot 41 (.agg ((ptag key (catp ([(Pt.mk none 0 0 []), (Pt.mk A n c b), (Pt.mk none 0 0 [])]))).map b8).toArray) (.agg ((ptag key b).map b8).toArray) rfl (by rw [c6_mid]) ?_
                  refine D_on [5, 6] rfl ?_
                  refine D_one 24 _ rfl (by kernel_rfl) rfl (op_bslice (e := 25) (zs := [(.slice A n c)]) (qs := [(0, (.slice A n c))]) (fun _ => by kernel_rfl) rfl rfl rfl rfl (fun g54 => ?_))
                  refine D_on [6, 7] rfl ?_
                  refine D_one 25 _ rfl (by kernel_rfl) rfl (op_call0 (vs := [(.agg (key.map b8).toArray), (.slice (some ⟨g54, 0, none⟩) 1 1)]) (cap := []) (fun w hw => ptag_f key [(Pt.mk A n c b)] (some ⟨g54, 0, none⟩) 1 1 w (hok_cons ((src_full (z := 1) 0 rfl rfl sd sd) w hw) (hok_cons (all_cons ((src_rd 7 rfl) w hw) (all_nil w)) (hok_nil w))) sd sd sd (by first | assumption | omega | (simp only [c6_cons, c6_nil, List.append_nil, List.length_append]; omega) | (simp [c6_cons, c6_nil]; done) | (simp [c6_cons, c6_nil]; omega))) (enters_of Try.func18 (by kernel_rfl) rfl) rfl rfl rfl rfl rfl (fun t55 q56 => ?_))
                  refine T_slot 45 (.agg ((ptag key (catp [(Pt.mk A n c b)])).map b8).toArray) (.agg ((ptag key b).map b8).toArray) rfl (by rw [c6_one]) ?_
                  refine D_on [6, 7] rfl ?_
                  refine D_pure (i := 26) [6, 7] rfl (by kernel_rfl) rfl (pr_eqagg (bo := .eql) (c := ((ptag key b) == (ptag key b))) (r := ((ptag key b) == (ptag key b))) (eqb8 (xs := (ptag key b)) (ys := (ptag key b)) Try.underlying27 Try.underlying5 (by kernel_rfl) sd sd) (by kernel_rfl) rfl rfl rfl rfl rfl) (.inr rfl) rfl rfl ?_
                  refine D_pure (i := 27) [6, 7] rfl (by kernel_rfl) rfl (pr_pick_t rfl rfl rfl) (.inr rfl) rfl rfl ?_
                  refine D_pure (i := 28) [6, 7] rfl (by kernel_rfl) rfl (pr_assign rfl rfl) (.inr rfl) rfl rfl ?_
                  refine D_done (by kernel_rfl) ?_
                  exact T_meet () trivial (sc rfl sn) [6, 7] ⟨by decide, rfl⟩
                · skip
                  refine id (op_bslice (e := 25) (zs := [(.slice A n c)]) (qs := [(0, (.slice A n c))]) (fun _ => by kernel_rfl) rfl rfl rfl rfl (fun g57 => ?_))
                  refine D_on [6, 7] rfl ?_
                  refine D_one 21 _ rfl (by kernel_rfl) rfl (op_call0 (vs := [(.agg (key.map b8).toArray), (.slice (some ⟨g51, 0, none⟩) 3 3)]) (cap := []) (fun w hw => ptag_f key ([(Pt.mk none 0 0 []), (Pt.mk A n c b), (Pt.mk none 0 0 [])]) (some ⟨g51, 0, none⟩) 3 3 w (hok_cons ((src_full (z := 1) 1 rfl rfl sd sd) w hw) (hok_cons (all_cons ((src_nil 1) w hw) (all_cons ((src_rd 7 rfl) w hw) (all_cons ((src_nil 1) w hw) (all_nil w)))) (hok_nil w))) sd sd sd (by first | assumption | omega | (simp only [c6_cons, c6_nil, List.append_nil, List.length_append]; omega) | (simp [c6_cons, c6_nil]; done) | (simp [c6_cons, c6_nil]; omega))) (enters_of Try.func18 (by kernel_rfl) rfl) rfl rfl rfl rfl rfl (fun t58 q59 => ?_))
                  refine T_slot 41 (.agg ((ptag key (catp ([(Pt.mk none 0 0 []), (Pt.mk A n c b), (Pt.mk none 0 0 [])]))).map b8).toArray) (.agg ((ptag key b).map b8).toArray) rfl (by rw [c6_mid]) ?_
                  refine D_on [6, 7] rfl ?_
                  refine D_one 25 _ rfl (by kernel_rfl) rfl (op_call0 (vs := [(.agg (key.map b8).toArray), (.slice (some ⟨g57, 0, none⟩) 1 1)]) (cap := []) (fun w hw => ptag_f key [(Pt.mk A n c b)] (some ⟨g57, 0, none⟩) 1 1 w (hok_cons ((src_full (z := 1) 0 rfl rfl sd sd) w hw) (hok_cons (all_cons ((src_rd 7 rfl) w hw) (all_nil w)) (hok_nil w))) sd sd sd (by first | assumption | omega | (simp only [c6_cons, c6_nil, List.append_nil, List.length_append]; omega) | (simp [c6_cons, c6_nil]; done) | (simp [c6_cons, c6_nil]; omega))) (enters_of Try.func18 (by kernel_rfl) rfl) rfl rfl rfl rfl rfl (fun t60 q61 => ?_))
                  refine T_slot 45 (.agg ((ptag key (catp [(Pt.mk A n c b)])).map b8).toArray) (.agg ((ptag key b).map b8).toArray) rfl (by rw [c6_one]) ?_
                  refine D_on [6, 7] rfl ?_
                  refine D_pure (i := 26) [6, 7] rfl (by kernel_rfl) rfl (pr_eqagg (bo := .eql) (c := ((ptag key b) == (ptag key b))) (r := ((ptag key b) == (ptag key b))) (eqb8 (xs := (ptag key b)) (ys := (ptag key b)) Try.underlying27 Try.underlying5 (by kernel_rfl) sd sd) (by kernel_rfl) rfl rfl rfl rfl rfl) (.inr rfl) rfl rfl ?_
                  refine D_pure (i := 27) [6, 7] rfl (by kernel_rfl) rfl (pr_pick_t rfl rfl rfl) (.inr rfl) rfl rfl ?_
                  refine D_pure (i := 28) [6, 7] rfl (by kernel_rfl) rfl (pr_assign rfl rfl) (.inr rfl) rfl rfl ?_
                  refine D_done (by kernel_rfl) ?_
                  exact T_meet () trivial (sc rfl sn) [6, 7] ⟨by decide, rfl⟩
              · skip
                refine id (op_bslice (e := 25) (zs := [(.slice A n c)]) (qs := [(0, (.slice A n c))]) (fun _ => by kernel_rfl) rfl rfl rfl rfl (fun g62 => ?_))
                refine D_on [5, 6] rfl ?_
                refine D_one 20 _ rfl (by kernel_rfl) rfl (op_bslice (e := 25) (zs := [(.slice none 0 0), (.slice A n c), (.slice none 0 0)]) (qs := [(0, (.slice none 0 0)), (1, (.slice A n c)), (2, (.slice none 0 0))]) (fun _ => by kernel_rfl) rfl rfl rfl rfl (fun g63 => ?_))
                refine D_on [6, 7] rfl ?_
                refine D_one 21 _ rfl (by kernel_rfl) rfl (op_call0 (vs := [(.agg (key.map b8).toArray), (.slice (some ⟨g63, 0, none⟩) 3 3)]) (cap := []) (fun w hw => ptag_f key ([(Pt.mk none 0 0 []), (Pt.mk A n c b), (Pt.mk none 0 0 [])]) (some ⟨g63, 0, none⟩) 3 3 w (hok_cons ((src_full (z := 1) 0 rfl rfl sd sd) w hw) (hok_cons (all_cons ((src_nil 1) w hw) (all_cons ((src_rd 7 rfl) w hw) (all_cons ((src_nil 1) w hw) (all_nil w)))) (hok_nil w))) sd sd sd (by first | assumption | omega | (simp only [c6_cons, c6_nil, List.append_nil, List.length_append]; omega) | (simp [c6_cons, c6_nil]; done) | (simp [c6_cons, c6_nil]; omega))) (enters_of Try.func18 (by kernel_rfl) rfl) rfl rfl rfl rfl rfl (fun t64 q65 => ?_))
                refine T_slot 41 (.agg ((ptag key (catp ([(Pt.mk none 0 0 []), (Pt.mk A n c b), (Pt.mk none 0 0 [])]))).map b8).toArray) (.agg ((ptag key b).map b8).toArray) rfl (by rw [c6_mid]) ?_
                refine D_on [6, 7] rfl ?_
                refine D_one 25 _ rfl (by kernel_rfl) rfl (op_call0 (vs := [(.agg (key.map b8).toArray), (.slice (some ⟨g62, 0, none⟩) 1 1)]) (cap := []) (fun w hw => ptag_f key [(Pt.mk A n c b)] (some ⟨g62, 0, none⟩) 1 1 w (hok_cons ((src_full (z := 1) 1 rfl rfl sd sd) w hw) (hok_cons (all_cons ((src_rd 7 rfl) w hw) (all_nil w)) (hok_nil w))) sd sd sd (by first | assumption | omega | (simp only [c6_cons, c6_nil, List.append_nil, List.length_append]; omega) | (simp [c6_cons, c6_nil]; done) | (simp [c6_cons, c6_nil]; omega))) (enters_of Try.func18 (by kernel_rfl) rfl) rfl rfl rfl rfl rfl (fun t66 q67 => ?_))
                refine T_slot 45 (.agg ((ptag key (catp [(Pt.mk A n c b)])).map b8).toArray) (.agg ((ptag key b).map b8).toArray) rfl (by rw [c6_one]) ?_
                refine D_on [6, 7] rfl ?_
                refine D_pure (i := 26) [6, 7] rfl (by kernel_rfl) rfl (pr_eqagg (bo := .eql) (c := ((ptag key b) == (ptag key b))) (r := ((ptag key b) == (ptag key b))) (eqb8 (xs := (ptag key b)) (ys := (ptag key b)) Try.underlying27 Try.underlying5 (by kernel_rfl) sd sd) (by kernel_rfl) rfl rfl rfl rfl rfl) (.inr rfl) rfl rfl ?_
                refine D_pure (i := 27) [6, 7] rfl (by kernel_rfl) rfl (pr_pick_t rfl rfl rfl) (.inr rfl) rfl rfl ?_
                refine D_pure (i := 28) [6, 7] rfl (by kernel_rfl) rfl (pr_assign rfl rfl) (.inr rfl) rfl rfl ?_
                refine D_done (by kernel_rfl) ?_
                exact T_meet () trivial (sc rfl sn) [6, 7] ⟨by decide, rfl⟩
          · skip
            refine id (op_bslice (e := 25) (zs := [(.slice A n c)]) (qs := [(0, (.slice A n c))]) (fun _ => by kernel_rfl) rfl rfl rfl rfl (fun g68 => ?_))
            refine D_on [3, 4] rfl ?_
            refine D_one 9 _ rfl (by kernel_rfl) rfl (op_bslice (e := 25) (zs := [(.slice B21 kk c), (.slice B22 (n - kk) (c - kk))]) (qs := [(0, (.slice B21 kk c)), (1, (.slice B22 (n - kk) (c - kk)))]) (fun _ => by kernel_rfl) rfl rfl rfl rfl (fun g69 => ?_))
            refine D_on [4, 5] rfl ?_
            refine D_one 10 _ rfl (by kernel_rfl) rfl (op_call0 (vs := [(.agg (key.map b8).toArray), (.slice (some ⟨g69, 0, none⟩) 2 2)]) (cap := []) (fun w hw => ptag_f key [(Pt.mk B21 kk c (List.take kk b)), (Pt.mk B22 (n - kk) (c - kk) (List.drop kk b))] (some ⟨g69, 0, none⟩) 2 2 w (hok_cons ((src_full (z := 1) 0 rfl rfl sd sd) w hw) (hok_cons (all_cons ((src_rd 3 rfl) w hw) (all_cons ((src_rd 2 rfl) w hw) (all_nil w))) (hok_nil w))) sd sd sd (by first | assumption | omega | (simp only [c6_cons, c6_nil, List.append_nil, List.length_append]; omega) | (simp [c6_cons, c6_nil]; done) | (simp [c6_cons, c6_nil]; omega))) (enters_of Try.func18 (by kernel_rfl) rfl) rfl rfl rfl rfl rfl (fun t70 q71 => ?_))
            refine T_slot 30 (.agg ((ptag key (catp [(Pt.mk B21 kk c (List.take kk b)), (Pt.mk B22 (n - kk) (c - kk) (List.drop kk b))])).map b8).toArray) (.agg ((ptag key b).map b8).toArray) rfl (by rw [c6_two]) ?_
            refine D_on [4, 5] rfl ?_
            refine D_one 14 _ rfl (by kernel_rfl) rfl (op_call0 (vs := [(.agg (key.map b8).toArray), (.slice (some ⟨g68, 0, none⟩) 1 1)]) (cap := []) (fun w hw => ptag_f key [(Pt.mk A n c b)] (some ⟨g68, 0, none⟩) 1 1 w (hok_cons ((src_full (z := 1) 1 rfl rfl sd sd) w hw) (hok_cons (all_cons ((src_rd 5 rfl) w hw) (all_nil w)) (hok_nil w))) sd sd sd (by first | assumption | omega | (simp only [c6_cons, c6_nil, List.append_nil, List.length_append]; omega) | (simp [c6_cons, c6_nil]; done) | (simp [c6_cons, c6_nil]; omega))) (enters_of Try.func18 (by kernel_rfl) rfl) rfl rfl rfl rfl rfl (fun t72 q73 => ?_))
            refine T_slot 34 (.agg ((ptag key (catp [(Pt.mk A n c b)])).map b8).toArray) (.agg ((ptag key b).map b8).toArray) rfl (by rw [c6_one]) ?_
            refine D_on [4, 5] rfl ?_
            refine D_pure (i := 15) [4, 5] rfl (by kernel_rfl) rfl (pr_eqagg (bo := .eql) (c := ((ptag key b) == (ptag key b))) (r := ((ptag key b) == (ptag key b))) (eqb8 (xs := (ptag key b)) (ys := (ptag key b)) Try.underlying27 Try.underlying5 (by kernel_rfl) sd sd) (by kernel_rfl) rfl rfl rfl rfl rfl) (.inr rfl) rfl rfl ?_
            refine D_pure (i := 16) [4, 5] rfl (by kernel_rfl) rfl (pr_pick_t rfl rfl rfl) (.inr rfl) rfl rfl ?_
            refine D_pure (i := 17) [4, 5] rfl (by kernel_rfl) rfl (pr_move rfl rfl) (.inr rfl) rfl rfl ?_
            refine T_slot 35 (.bool ((ptag key b) == (ptag key b))) (.bool true) rfl (congrArg _ (by simp)) ?_
            refine T_slot 36 (.bool ((ptag key b) == (ptag key b))) (.bool true) rfl (congrArg _ (by simp)) ?_
            refine T_slot 37 (.bool ((ptag key b) == (ptag key b))) (.bool true) rfl (congrArg _ (by simp)) ?_
            refine D_pure (i := 19) [4, 5] rfl (by kernel_rfl) rfl (pr_move rfl rfl) (.inr rfl) rfl rfl ?_
            refine D_pure (i := 23) [4, 5] rfl (by kernel_rfl) rfl (pr_move rfl rfl) (.inr rfl) rfl rfl ?_
            refine D_take (i := 18) [4, 5] rfl (by kernel_rfl) rfl (ld_agg (ds := (key.map b8)) 0 rfl agg_all Try.underlying22 rfl (by rw [show ((key.map b8)).length = 32 from sd]; kernel_rfl) rfl rfl) rfl rfl rfl ?_
            refine D_take (i := 22) [4, 5] rfl (by kernel_rfl) rfl (ld_agg (ds := (key.map b8)) 0 rfl agg_all Try.underlying22 rfl (by rw [show ((key.map b8)).length = 32 from sd]; kernel_rfl) rfl rfl) rfl rfl rfl ?_
            refine D_all [20, 24] (by kernel_rfl) (by simp) ⟨⟨_, rfl, rfl, ?_⟩, ⟨_, rfl, rfl, ?_⟩, trivial⟩
            · skip
              refine id (op_bslice (e := 25) (zs := [(.slice none 0 0), (.slice A n c), (.slice none 0 0)]) (qs := [(0, (.slice none 0 0)), (1, (.slice A n c)), (2, (.slice none 0 0))]) (fun _ => by kernel_rfl) rfl rfl rfl rfl (fun g74 => ?_))
              refine D_on [5, 6] rfl ?_
              refine D_all [21, 24] (by kernel_rfl) (by simp) ⟨⟨_, rfl, rfl, ?_⟩, ⟨_, rfl, rfl, ?_⟩, trivial⟩
              · skip
                refine id (op_call0 (vs := [(.agg (key.map b8).toArray), (.slice (some ⟨g74, 0, none⟩) 3 3)]) (cap := []) (fun w hw => ptag_f key ([(Pt.mk none 0 0 []), (Pt.mk A n c b), (Pt.mk none 0 0 [])]) (some ⟨g74, 0, none⟩) 3 3 w (hok_cons ((src_full (z := 1) 0 rfl rfl sd sd) w hw) (hok_cons (all_cons ((src_nil 1) w hw) (all_cons ((src_rd 6 rfl) w hw) (all_cons ((src_nil 1) w hw) (all_nil w)))) (hok_nil w))) sd sd sd (by first | assumption | omega | (simp only [c6_cons, c6_nil, List.append_nil, List.length_append]; omega) | (simp [c6_cons, c6_nil]; done) | (simp [c6_cons, c6_nil]; omega))) (enters_of Try.func18 (by kernel_rfl) rfl) rfl rfl rfl rfl rfl (fun t75 q76 => ?_))
                refine T_slot 41 (.agg ((ptag key (catp ([(Pt.mk none 0 0 []), (Pt.mk A n c b), (Pt.mk none 0 0 [])]))).map b8).toArray) (.agg ((ptag key b).map b8).toArray) rfl (by rw [c6_mid]) ?_
                refine D_on [5, 6] rfl ?_
                refine D_one 24 _ rfl (by kernel_rfl) rfl (op_bslice (e := 25) (zs := [(.slice A n c)]) (qs := [(0, (.slice A n c))]) (fun _ => by kernel_rfl) rfl rfl rfl rfl (fun g77 => ?_))
                refine D_on [6, 7] rfl ?_
                refine D_one 25 _ rfl (by kernel_rfl) rfl (op_call0 (vs := [(.agg (key.map b8).toArray), (.slice (some ⟨g77, 0, none⟩) 1 1)]) (cap := []) (fun w hw => ptag_f key [(Pt.mk A n c b)] (some ⟨g77, 0, none⟩) 1 1 w (hok_cons ((src_full (z := 1) 0 rfl rfl sd sd) w hw) (hok_cons (all_cons ((src_rd 7 rfl) w hw) (all_nil w)) (hok_nil w))) sd sd sd (by first | assumption | omega | (simp only [c6_cons, c6_nil, List.append_nil, List.length_append]; omega) | (simp [c6_cons, c6_nil]; done) | (simp [c6_cons, c6_nil]; omega))) (enters_of Try.func18 (by kernel_rfl) rfl) rfl rfl rfl rfl rfl (fun t78 q79 => ?_))
                refine T_slot 45 (.agg ((ptag key (catp [(Pt.mk A n c b)])).map b8).toArray) (.agg ((ptag key b).map b8).toArray) rfl (by rw [c6_one]) ?_
                refine D_on [6, 7] rfl ?_
                refine D_pure (i := 26) [6, 7] rfl (by kernel_rfl) rfl (pr_eqagg (bo := .eql) (c := ((ptag key b) == (ptag key b))) (r := ((ptag key b) == (ptag key b))) (eqb8 (xs := (ptag key b)) (ys := (ptag key b)) Try.underlying27 Try.underlying5 (by kernel_rfl) sd sd) (by kernel_rfl) rfl rfl rfl rfl rfl) (.inr rfl) rfl rfl ?_
                refine D_pure (i := 27) [6, 7] rfl (by kernel_rfl) rfl (pr_pick_t rfl rfl rfl) (.inr rfl) rfl rfl ?_
                refine D_pure (i := 28) [6, 7] rfl (by kernel_rfl) rfl (pr_assign rfl rfl) (.inr rfl) rfl rfl ?_
                refine D_done (by kernel_rfl) ?_
                exact T_meet () trivial (sc rfl sn) [6, 7] ⟨by decide, rfl⟩
              · skip
                refine id (op_bslice (e := 25) (zs := [(.slice A n c)]) (qs := [(0, (.slice A n c))]) (fun _ => by kernel_rfl) rfl rfl rfl rfl (fun g80 => ?_))
                refine D_on [6, 7] rfl ?_
                refine D_one 21 _ rfl (by kernel_rfl) rfl (op_call0 (vs := [(.agg (key.map b8).toArray), (.slice (some ⟨g74, 0, none⟩) 3 3)]) (cap := []) (fun w hw => ptag_f key ([(Pt.mk none 0 0 []), (Pt.mk A n c b), (Pt.mk none 0 0 [])]) (some ⟨g74, 0, none⟩) 3 3 w (hok_cons ((src_full (z := 1) 1 rfl rfl sd sd) w hw) (hok_cons (all_cons ((src_nil 1) w hw) (all_cons ((src_rd 7 rfl) w hw) (all_cons ((src_nil 1) w hw) (all_nil w)))) (hok_nil w))) sd sd sd (by first | assumption | omega | (simp only [c6_cons, c6_nil, List.append_nil, List.length_append]; omega) | (simp [c6_cons, c6_nil]; done) | (simp [c6_cons, c6_nil]; omega))) (enters_of Try.func18 (by kernel_rfl) rfl) rfl rfl rfl rfl rfl (fun t81 q82 => ?_))
                refine T_slot 41 (.agg ((ptag key (catp ([(Pt.mk none 0 0 []), (Pt.mk A n c b), (Pt.mk none 0 0 [])]))).map b8).toArray) (.agg ((ptag key b).map b8).toArray) rfl (by rw [c6_mid]) ?_
                refine D_on [6, 7] rfl ?_
                refine D_one 25 _ rfl (by kernel_rfl) rfl (op_call0 (vs := [(.agg (key.map b8).toArray), (.slice (some ⟨g80, 0, none⟩) 1 1)]) (cap := []) (fun w hw => ptag_f key [(Pt.mk A n c b)] (some ⟨g80, 0, none⟩) 1 1 w (hok_cons ((src_full (z := 1) 0 rfl rfl sd sd) w hw) (hok_cons (all_cons ((src_rd 7 rfl) w hw) (all_nil w)) (hok_nil w))) sd sd sd (by first | assumption | omega | (simp only [c6_cons, c6_nil, List.append_nil, List.length_append]; omega) | (simp [c6_cons, c6_nil]; done) | (simp [c6_cons, c6_nil]; omega))) (enters_of Try.func18 (by kernel_rfl) rfl) rfl rfl rfl rfl rfl (fun t83 q84 => ?_))
                refine T_slot 45 (.agg ((ptag key (catp [(Pt.mk A n c b)])).map b8).toArray) (.agg ((ptag key b).map b8).toArray) rfl (by rw [c6_one]) ?_
                refine D_on [6, 7] rfl ?_
                refine D_pure (i := 26) [6, 7] rfl (by kernel_rfl) rfl (pr_eqagg (bo := .eql) (c := ((ptag key b) == (ptag key b))) (r := ((ptag key b) == (ptag key b))) (eqb8 (xs := (ptag key b)) (ys := (ptag key b)) Try.underlying27 Try.underlying5 (by kernel_rfl) sd sd) (by kernel_rfl) rfl rfl rfl rfl rfl) (.inr rfl) rfl rfl ?_
                refine D_pure (i := 27) [6, 7] rfl (by kernel_rfl) rfl (pr_pick_t rfl rfl rfl) (.inr rfl) rfl rfl ?_
                refine D_pure (i := 28) [6, 7] rfl (by kernel_rfl) rfl (pr_assign rfl rfl) (.inr rfl) rfl rfl ?_
                refine D_done (by kernel_rfl) ?_
                exact T_meet () trivial (sc rfl sn) [6, 7] ⟨by decide, rfl⟩
            · skip
              refine id (op_bslice (e := 25) (zs := [(.slice A n c)]) (qs := [(0, (.slice A n c))]) (fun _ => by kernel_rfl) rfl rfl rfl rfl (fun g85 => ?_))
              refine D_on [5, 6] rfl ?_
              refine D_one 20 _ rfl (by kernel_rfl) rfl (op_bslice (e := 25) (zs := [(.slice none 0 0), (.slice A n c), (.slice none 0 0)]) (qs := [(0, (.slice none 0 0)), (1, (.slice A n c)), (2, (.slice none 0 0))]) (fun _ => by kernel_rfl) rfl rfl rfl rfl (fun g86 => ?_))
              refine D_on [6, 7] rfl ?_
              refine D_one 21 _ rfl (by kernel_rfl) rfl (op_call0 (vs := [(.agg (key.map b8).toArray), (.slice (some ⟨g86, 0, none⟩) 3 3)]) (cap := []) (fun w hw => ptag_f key ([(Pt.mk none 0 0 []), (Pt.mk A n c b), (Pt.mk none 0 0 [])]) (some ⟨g86, 0, none⟩) 3 3 w (hok_cons ((src_full (z := 1) 0 rfl rfl sd sd) w hw) (hok_cons (all_cons ((src_nil 1) w hw) (all_cons ((src_rd 7 rfl) w hw) (all_cons ((src_nil 1) w hw) (all_nil w)))) (hok_nil w))) sd sd sd (by first | assumption | omega | (simp only [c6_cons, c6_nil, List.append_nil, List.length_append]; omega) | (simp [c6_cons, c6_nil]; done) | (simp [c6_cons, c6_nil]; omega))) (enters_of Try.func18 (by kernel_rfl) rfl) rfl rfl rfl rfl rfl (fun t87 q88 => ?_))
              refine T_slot 41 (.agg ((ptag key (catp ([(Pt.mk none 0 0 []), (Pt.mk A n c b), (Pt.mk none 0 0 [])]))).map b8).toArray) (.agg ((ptag key b).map b8).toArray) rfl (by rw [c6_mid]) ?_
              refine D_on [6, 7] rfl ?_
              refine D_one 25 _ rfl (by kernel_rfl) rfl (op_call0 (vs := [(.agg (key.map b8).toArray), (.slice (some ⟨g85, 0, none⟩) 1 1)]) (cap := []) (fun w hw => ptag_f key [(Pt.mk A n c b)] (some ⟨g85, 0, none⟩) 1 1 w (hok_cons ((src_full (z := 1) 1 rfl rfl sd sd) w hw) (hok_cons (all_cons ((src_rd 7 rfl) w hw) (all_nil w)) (hok_nil w))) sd sd sd (by first | assumption | omega | (simp only [c6_cons, c6_nil, List.append_nil, List.length_append]; omega) | (simp [c6_cons, c6_nil]; done) | (simp [c6_cons, c6_nil]; omega))) (enters_of Try.func18 (by kernel_rfl) rfl) rfl rfl rfl rfl rfl (fun t89 q90 => ?_))
              refine T_slot 45 (.agg ((ptag key (catp [(Pt.mk A n c b)])).map b8).toArray) (.agg ((ptag key b).map b8).toArray) rfl (by rw [c6_one]) ?_
              refine D_on [6, 7] rfl ?_
              refine D_pure (i := 26) [6, 7] rfl (by kernel_rfl) rfl (pr_eqagg (bo := .eql) (c := ((ptag key b) == (ptag key b))) (r := ((ptag key b) == (ptag key b))) (eqb8 (xs := (ptag key b)) (ys := (ptag key b)) Try.underlying27 Try.underlying5 (by kernel_rfl) sd sd) (by kernel_rfl) rfl rfl rfl rfl rfl) (.inr rfl) rfl rfl ?_
              refine D_pure (i := 27) [6, 7] rfl (by kernel_rfl) rfl (pr_pick_t rfl rfl rfl) (.inr rfl) rfl rfl ?_
              refine D_pure (i := 28) [6, 7] rfl (by kernel_rfl) rfl (pr_assign rfl rfl) (.inr rfl) rfl rfl ?_
              refine D_done (by kernel_rfl) ?_
              exact T_meet () trivial (sc rfl sn) [6, 7] ⟨by decide, rfl⟩
        · skip
          refine id (op_bslice (e := 25) (zs := [(.slice A n c)]) (qs := [(0, (.slice A n c))]) (fun _ => by kernel_rfl) rfl rfl rfl rfl (fun g91 => ?_))
          refine D_on [2, 3] rfl ?_
          refine D_one 8 _ rfl (by kernel_rfl) rfl (op_slice_rd (l := kk) (u := n) 3 rfl sd sd Try.underlying25 (by kernel_rfl) rfl rfl ⟨_, rfl⟩ rfl rfl rfl (fun B92 => ?_))
          refine T_as 0 _ (.rd B92 1 (n - kk) (c - kk) ((List.drop kk b).map b8)) rfl (by congr 1; first | rfl | (rw [List.take_of_length_le (by simp; omega)]; simp)) ?_
          refine D_on [3, 4] rfl ?_
          refine D_one 9 _ rfl (by kernel_rfl) rfl (op_bslice (e := 25) (zs := [(.slice B21 kk c), (.slice B92 (n - kk) (c - kk))]) (qs := [(0, (.slice B21 kk c)), (1, (.slice B92 (n - kk) (c - kk)))]) (fun _ => by kernel_rfl) rfl rfl rfl rfl (fun g93 => ?_))
          refine D_on [4, 5] rfl ?_
          refine D_one 10 _ rfl (by kernel_rfl) rfl (op_call0 (vs := [(.agg (key.map b8).toArray), (.slice (some ⟨g93, 0, none⟩) 2 2)]) (cap := []) (fun w hw => ptag_f key [(Pt.mk B21 kk c (List.take kk b)), (Pt.mk B92 (n - kk) (c - kk) (List.drop kk b))] (some ⟨g93, 0, none⟩) 2 2 w (hok_cons ((src_full (z := 1) 0 rfl rfl sd sd) w hw) (hok_cons (all_cons ((src_rd 3 rfl) w hw) (all_cons ((src_rd 1 rfl) w hw) (all_nil w))) (hok_nil w))) sd sd sd (by first | assumption | omega | (simp only [c6_cons, c6_nil, List.append_nil, List.length_append]; omega) | (simp [c6_cons, c6_nil]; done) | (simp [c6_cons, c6_nil]; omega))) (enters_of Try.func18 (by kernel_rfl) rfl) rfl rfl rfl rfl rfl (fun t94 q95 => ?_))
          refine T_slot 30 (.agg ((ptag key (catp [(Pt.mk B21 kk c (List.take kk b)), (Pt.mk B92 (n - kk) (c - kk) (List.drop kk b))])).map b8).toArray) (.agg ((ptag key b).map b8).toArray) rfl (by rw [c6_two]) ?_
          refine D_on [4, 5] rfl ?_
          refine D_one 14 _ rfl (by kernel_rfl) rfl (op_call0 (vs := [(.agg (key.map b8).toArray), (.slice (some ⟨g91, 0, none⟩) 1 1)]) (cap := []) (fun w hw => ptag_f key [(Pt.mk A n c b)] (some ⟨g91, 0, none⟩) 1 1 w (hok_cons ((src_full (z := 1) 2 rfl rfl sd sd) w hw) (hok_cons (all_cons ((src_rd 5 rfl) w hw) (all_nil w)) (hok_nil w))) sd sd sd (by first | assumption | omega | (simp only [c6_cons, c6_nil, List.append_nil, List.length_append]; omega) | (simp [c6_cons, c6_nil]; done) | (simp [c6_cons, c6_nil]; omega))) (enters_of Try.func18 (by kernel_rfl) rfl) rfl rfl rfl rfl rfl (fun t96 q97 => ?_))
          refine T_slot 34 (.agg ((ptag key (catp [(Pt.mk A n c b)])).map b8).toArray) (.agg ((ptag key b).map b8).toArray) rfl (by rw [c6_one]) ?_
          refine D_on [4, 5] rfl ?_
          refine D_pure (i := 15) [4, 5] rfl (by kernel_rfl) rfl (pr_eqagg (bo := .eql) (c := ((ptag key b) == (ptag key b))) (r := ((ptag key b) == (ptag key b))) (eqb8 (xs := (ptag key b)) (ys := (ptag key b)) Try.underlying27 Try.underlying5 (by kernel_rfl) sd sd) (by kernel_rfl) rfl rfl rfl rfl rfl) (.inr rfl) rfl rfl ?_
          refine D_pure (i := 16) [4, 5] rfl (by kernel_rfl) rfl (pr_pick_t rfl rfl rfl) (.inr rfl) rfl rfl ?_
          refine D_pure (i := 17) [4, 5] rfl (by kernel_rfl) rfl (pr_move rfl rfl) (.inr rfl) rfl rfl ?_
          refine T_slot 35 (.bool ((ptag key b) == (ptag key b))) (.bool true) rfl (congrArg _ (by simp)) ?_
          refine T_slot 36 (.bool ((ptag key b) == (ptag key b))) (.bool true) rfl (congrArg _ (by simp)) ?_
          refine T_slot 37 (.bool ((ptag key b) == (ptag key b))) (.bool true) rfl (congrArg _ (by simp)) ?_
          refine D_pure (i := 19) [4, 5] rfl (by kernel_rfl) rfl (pr_move rfl rfl) (.inr rfl) rfl rfl ?_
          refine D_pure (i := 23) [4, 5] rfl (by kernel_rfl) rfl (pr_move rfl rfl) (.inr rfl) rfl rfl ?_
          refine D_take (i := 18) [4, 5] rfl (by kernel_rfl) rfl (ld_agg (ds := (key.map b8)) 0 rfl agg_all Try.underlying22 rfl (by rw [show ((key.map b8)).length = 32 from sd]; kernel_rfl) rfl rfl) rfl rfl rfl ?_
          refine D_take (i := 22) [4, 5] rfl (by kernel_rfl) rfl (ld_agg (ds := (key.map b8)) 0 rfl agg_all Try.underlying22 rfl (by rw [show ((key.map b8)).length = 32 from sd]; kernel_rfl) rfl rfl) rfl rfl rfl ?_
          refine D_all [20, 24] (by kernel_rfl) (by simp) ⟨⟨_, rfl, rfl, ?_⟩, ⟨_, rfl, rfl, ?_⟩, trivial⟩
          · skip
            refine id (op_bslice (e := 25) (zs := [(.slice none 0 0), (.slice A n c), (.slice none 0 0)]) (qs := [(0, (.slice none 0 0)), (1, (.slice A n c)), (2, (.slice none 0 0))]) (fun _ => by kernel_rfl) rfl rfl rfl rfl (fun g98 => ?_))
            refine D_on [5, 6] rfl ?_
            refine D_all [21, 24] (by kernel_rfl) (by simp) ⟨⟨_, rfl, rfl, ?_⟩, ⟨_, rfl, rfl, ?_⟩, trivial⟩
            · skip
              refine id (op_call0 (vs := [(.agg (key.map b8).toArray), (.slice (some ⟨g98, 0, none⟩) 3 3)]) (cap := []) (fun w hw => ptag_f key ([(Pt.mk none 0 0 []), (Pt.mk A n c b), (Pt.mk none 0 0 [])]) (some ⟨g98, 0, none⟩) 3 3 w (hok_cons ((src_full (z := 1) 0 rfl rfl sd sd) w hw) (hok_cons (all_cons ((src_nil 1) w hw) (all_cons ((src_rd 6 rfl) w hw) (all_cons ((src_nil 1) w hw) (all_nil w)))) (hok_nil w))) sd sd sd (by first | assumption | omega | (simp only [c6_cons, c6_nil, List.append_nil, List.length_append]; omega) | (simp [c6_cons, c6_nil]; done) | (simp [c6_cons, c6_nil]; omega))) (enters_of Try.func18 (by kernel_rfl) rfl) rfl rfl rfl rfl rfl (fun t99 q100 => ?_))
              refine T_slot 41 (.agg ((ptag key (catp ([(Pt.mk none 0 0 []), (Pt.mk A n c b), (Pt.mk none 0 0 [])]))).map b8).toArray) (.agg ((ptag key b).map b8).toArray) rfl (by rw [c6_mid]) ?_
              refine D_on [5, 6] rfl ?_
              refine D_one 24 _ rfl (by kernel_rfl) rfl (op_bslice (e := 25) (zs := [(.slice A n c)]) (qs := [(0, (.slice A n c))]) (fun _ => by kernel_rfl) rfl rfl rfl rfl (fun g101 => ?_))
              refine D_on [6, 7] rfl ?_
              refine D_one 25 _ rfl (by kernel_rfl) rfl (op_call0 (vs := [(.agg (key.map b8).toArray), (.slice (some ⟨g101, 0, none⟩) 1 1)]) (cap := []) (fun w hw => ptag_f key [(Pt.mk A n c b)] (some ⟨g101, 0, none⟩) 1 1 w (hok_cons ((src_full (z := 1) 0 rfl rfl sd sd) w hw) (hok_cons (all_cons ((src_rd 7 rfl) w hw) (all_nil w)) (hok_nil w))) sd sd sd (by first | assumption | omega | (simp only [c6_cons, c6_nil, List.append_nil, List.length_append]; omega) | (simp [c6_cons, c6_nil]; done) | (simp [c6_cons, c6_nil]; omega))) (enters_of Try.func18 (by kernel_rfl) rfl) rfl rfl rfl rfl rfl (fun t102 q103 => ?_))
              refine T_slot 45 (.agg ((ptag key (catp [(Pt.mk A n c b)])).map b8).toArray) (.agg ((ptag key b).map b8).toArray) rfl (by rw [c6_one]) ?_
              refine D_on [6, 7] rfl ?_
              refine D_pure (i := 26) [6, 7] rfl (by kernel_rfl) rfl (pr_eqagg (bo := .eql) (c := ((ptag key b) == (ptag key b))) (r := ((ptag key b) == (ptag key b))) (eqb8 (xs := (ptag key b)) (ys := (ptag key b)) Try.underlying27 Try.underlying5 (by kernel_rfl) sd sd) (by kernel_rfl) rfl rfl rfl rfl rfl) (.inr rfl) rfl rfl ?_
              refine D_pure (i := 27) [6, 7] rfl (by kernel_rfl) rfl (pr_pick_t rfl rfl rfl) (.inr rfl) rfl rfl ?_
              refine D_pure (i := 28) [6, 7] rfl (by kernel_rfl) rfl (pr_assign rfl rfl) (.inr rfl) rfl rfl ?_
              refine D_done (by kernel_rfl) ?_
              exact T_meet () trivial (sc rfl sn) [6, 7] ⟨by decide, rfl⟩
            · skip
              refine id (op_bslice (e := 25) (zs := [(.slice A n c)]) (qs := [(0, (.slice A n c))]) (fun _ => by kernel_rfl) rfl rfl rfl rfl (fun g104 => ?_))
              refine D_on [6, 7] rfl ?_
              refine D_one 21 _ rfl (by kernel_rfl) rfl (op_call0 (vs := [(.agg (key.map b8).toArray), (.slice (some ⟨g98, 0, none⟩) 3 3)]) (cap := []) (fun w hw => ptag_f key ([(Pt.mk none 0 0 []), (Pt.mk A n c b), (Pt.mk none 0 0 [])]) (some ⟨g98, 0, none⟩) 3 3 w (hok_cons ((src_full (z := 1) 1 rfl rfl sd sd) w hw) (hok_cons (all_cons ((src_nil 1) w hw) (all_cons ((src_rd 7 rfl) w hw) (all_cons ((src_nil 1) w hw) (all_nil w)))) (hok_nil w))) sd sd sd (by first | assumption | omega | (simp only [c6_cons, c6_nil, List.append_nil, List.length_append]; omega) | (simp [c6_cons, c6_nil]; done) | (simp [c6_cons, c6_nil]; omega))) (enters_of Try.func18 (by kernel_rfl) rfl) rfl rfl rfl rfl rfl (fun t105 q106 => ?_))
              refine T_slot 41 (.agg ((ptag key (catp ([(Pt.mk none 0 0 []), (Pt.mk A n c b), (Pt.mk none 0 0 [])]))).map b8).toArray) (.agg ((ptag key b).map b8).toArray) rfl (by rw [c6_mid]) ?_
              refine D_on [6, 7] rfl ?_
              refine D_one 25 _ rfl (by kernel_rfl) rfl (op_call0 (vs := [(.agg (key.map b8).toArray), (.slice (some ⟨g104, 0, none⟩) 1 1)]) (cap := []) (fun w hw => ptag_f key [(Pt.mk A n c b)] (some ⟨g104, 0, none⟩) 1 1 w (hok_cons ((src_full (z := 1) 0 rfl rfl sd sd) w hw) (hok_cons (all_cons ((src_rd 7 rfl) w hw) (all_nil w)) (hok_nil w))) sd sd sd (by first | assumption | omega | (simp only [c6_cons, c6_nil, List.append_nil, List.length_append]; omega) | (simp [c6_cons, c6_nil]; done) | (simp [c6_cons, c6_nil]; omega))) (enters_of Try.func18 (by kernel_rfl) rfl) rfl rfl rfl rfl rfl (fun t107 q108 => ?_))
              refine T_slot 45 (.agg ((ptag key (catp [(Pt.mk A n c b)])).map b8).toArray) (.agg ((ptag key b).map b8).toArray) rfl (by rw [c6_one]) ?_
              refine D_on [6, 7] rfl ?_
              refine D_pure (i := 26) [6, 7] rfl (by kernel_rfl) rfl (pr_eqagg (bo := .eql) (c := ((ptag key b) == (ptag key b))) (r := ((ptag key b) == (ptag key b))) (eqb8 (xs := (ptag key b)) (ys := (ptag key b)) Try.underlying27 Try.underlying5 (by kernel_rfl) sd sd) (by kernel_rfl) rfl rfl rfl rfl rfl) (.inr rfl) rfl rfl ?_
              refine D_pure (i := 27) [6, 7] rfl (by kernel_rfl) rfl (pr_pick_t rfl rfl rfl) (.inr rfl) rfl rfl ?_
              refine D_pure (i := 28) [6, 7] rfl (by kernel_rfl) rfl (pr_assign rfl rfl) (.inr rfl) rfl rfl ?_
              refine D_done (by kernel_rfl) ?_
              exact T_meet () trivial (sc rfl sn) [6, 7] ⟨by decide, rfl⟩
          · skip
            refine id (op_bslice (e := 25) (zs := [(.slice A n c)]) (qs := [(0, (.slice A n c))]) (fun _ => by kernel_rfl) rfl rfl rfl rfl (fun g109 => ?_))
            refine D_on [5, 6] rfl ?_
            refine D_one 20 _ rfl (by kernel_rfl) rfl (op_bslice (e := 25) (zs := [(.slice none 0 0), (.slice A n c), (.slice none 0 0)]) (qs := [(0, (.slice none 0 0)), (1, (.slice A n c)), (2, (.slice none 0 0))]) (fun _ => by kernel_rfl) rfl rfl rfl rfl (fun g110 => ?_))
            refine D_on [6, 7] rfl ?_
            refine D_one 21 _ rfl (by kernel_rfl) rfl (op_call0 (vs := [(.agg (key.map b8).toArray), (.slice (some ⟨g110, 0, none⟩) 3 3)]) (cap := []) (fun w hw => ptag_f key ([(Pt.mk none 0 0 []), (Pt.mk A n c b), (Pt.mk none 0 0 [])]) (some ⟨g110, 0, none⟩) 3 3 w (hok_cons ((src_full (z := 1) 0 rfl rfl sd sd) w hw) (hok_cons (all_cons ((src_nil 1) w hw) (all_cons ((src_rd 7 rfl) w hw) (all_cons ((src_nil 1) w hw) (all_nil w)))) (hok_nil w))) sd sd sd (by first | assumption | omega | (simp only [c6_cons, c6_nil, List.append_nil, List.length_append]; omega) | (simp [c6_cons, c6_nil]; done) | (simp [c6_cons, c6_nil]; omega))) (enters_of Try.func18 (by kernel_rfl) rfl) rfl rfl rfl rfl rfl (fun t111 q112 => ?_))
            refine T_slot 41 (.agg ((ptag key (catp ([(Pt.mk none 0 0 []), (Pt.mk A n c b), (Pt.mk none 0 0 [])]))).map b8).toArray) (.agg ((ptag key b).map b8).toArray) rfl (by rw [c6_mid]) ?_
            refine D_on [6, 7] rfl ?_
            refine D_one 25 _ rfl (by kernel_rfl) rfl (op_call0 (vs := [(.agg (key.map b8).toArray), (.slice (some ⟨g109, 0, none⟩) 1 1)]) (cap := []) (fun w hw => ptag_f key [(Pt.mk A n c b)] (some ⟨g109, 0, none⟩) 1 1 w (hok_cons ((src_full (z := 1) 1 rfl rfl sd sd) w hw) (hok_cons (all_cons ((src_rd 7 rfl) w hw) (all_nil w)) (hok_nil w))) sd sd sd (by first | assumption | omega | (simp only [c6_cons, c6_nil, List.append_nil, List.length_append]; omega) | (simp [c6_cons, c6_nil]; done) | (simp [c6_cons, c6_nil]; omega))) (enters_of Try.func18 (by kernel_rfl) rfl) rfl rfl rfl rfl rfl (fun t113 q114 => ?_))
            refine T_slot 45 (.agg ((ptag key (catp [(Pt.mk A n c b)])).map b8).toArray) (.agg ((ptag key b).map b8).toArray) rfl (by rw [c6_one]) ?_
            refine D_on [6, 7] rfl ?_
            refine D_pure (i := 26) [6, 7] rfl (by kernel_rfl) rfl (pr_eqagg (bo := .eql) (c := ((ptag key b) == (ptag key b))) (r := ((ptag key b) == (ptag key b))) (eqb8 (xs := (ptag key b)) (ys := (ptag key b)) Try.underlying27 Try.underlying5 (by kernel_rfl) sd sd) (by kernel_rfl) rfl rfl rfl rfl rfl) (.inr rfl) rfl rfl ?_
            refine D_pure (i := 27) [6, 7] rfl (by kernel_rfl) rfl (pr_pick_t rfl rfl rfl) (.inr rfl) rfl rfl ?_
            refine D_pure (i := 28) [6, 7] rfl (by kernel_rfl) rfl (pr_assign rfl rfl) (.inr rfl) rfl rfl ?_
            refine D_done (by kernel_rfl) ?_
            exact T_meet () trivial (sc rfl sn) [6, 7] ⟨by decide, rfl⟩
      · skip
        refine id (op_slice_rd (l := kk) (u := n) 1 rfl sd sd Try.underlying25 (by kernel_rfl) rfl rfl ⟨_, rfl⟩ rfl rfl rfl (fun B115 => ?_))
        refine T_as 0 _ (.rd B115 1 (n - kk) (c - kk) ((List.drop kk b).map b8)) rfl (by congr 1; first | rfl | (rw [List.take_of_length_le (by simp; omega)]; simp)) ?_
        refine D_on [1, 2] rfl ?_
        refine D_all [5, 13] (by kernel_rfl) (by simp) ⟨⟨_, rfl, rfl, ?_⟩, ⟨_, rfl, rfl, ?_⟩, trivial⟩
        · skip
          refine id (op_slice_rd (l := 0) (u := kk) 2 rfl sd sd Try.underlying25 (by kernel_rfl) rfl rfl rfl ⟨_, rfl⟩ rfl rfl (fun B116 => ?_))
          refine T_as 0 _ (.rd B116 1 kk c ((List.take kk b).map b8)) rfl (by congr 1; simp [List.map_take, List.map_drop] <;> omega) ?_
          refine T_slot 25 _ (.slice B116 kk c) rfl (by congr 1) ?_
          refine D_on [2, 3] rfl ?_
          refine D_all [9, 13] (by kernel_rfl) (by simp) ⟨⟨_, rfl, rfl, ?_⟩, ⟨_, rfl, rfl, ?_⟩, trivial⟩
          · skip
            refine id (op_bslice (e := 25) (zs := [(.slice B116 kk c), (.slice B115 (n - kk) (c - kk))]) (qs := [(0, (.slice B116 kk c)), (1, (.slice B115 (n - kk) (c - kk)))]) (fun _ => by kernel_rfl) rfl rfl rfl rfl (fun g117 => ?_))
            refine D_on [3, 4] rfl ?_
            refine D_all [10, 13] (by kernel_rfl) (by simp) ⟨⟨_, rfl, rfl, ?_⟩, ⟨_, rfl, rfl, ?_⟩, trivial⟩
            · skip
              refine id (op_call0 (vs := [(.agg (key.map b8).toArray), (.slice (some ⟨g117, 0, none⟩) 2 2)]) (cap := []) (fun w hw => ptag_f key [(Pt.mk B116 kk c (List.take kk b)), (Pt.mk B115 (n - kk) (c - kk) (List.drop kk b))] (some ⟨g117, 0, none⟩) 2 2 w (hok_cons ((src_full (z := 1) 0 rfl rfl sd sd) w hw) (hok_cons (all_cons ((src_rd 1 rfl) w hw) (all_cons ((src_rd 2 rfl) w hw) (all_nil w))) (hok_nil w))) sd sd sd (by first | assumption | omega | (simp only [c6_cons, c6_nil, List.append_nil, List.length_append]; omega) | (simp [c6_cons, c6_nil]; done) | (simp [c6_cons, c6_nil]; omega))) (enters_of Try.func18 (by kernel_rfl) rfl) rfl rfl rfl rfl rfl (fun t118 q119 => ?_))
              refine T_slot 30 (.agg ((ptag key (catp [(Pt.mk B116 kk c (List.take kk b)), (Pt.mk B115 (n - kk) (c - kk) (List.drop kk b))])).map b8).toArray) (.agg ((ptag key b).map b8).toArray) rfl (by rw [c6_two]) ?_
              refine D_on [3, 4] rfl ?_
              refine D_one 13 _ rfl (by kernel_rfl) rfl (op_bslice (e := 25) (zs := [(.slice A n c)]) (qs := [(0, (.slice A n c))]) (fun _ => by kernel_rfl) rfl rfl rfl rfl (fun g120 => ?_))
              refine D_on [4, 5] rfl ?_
              refine D_one 14 _ rfl (by kernel_rfl) rfl (op_call0 (vs := [(.agg (key.map b8).toArray), (.slice (some ⟨g120, 0, none⟩) 1 1)]) (cap := []) (fun w hw => ptag_f key [(Pt.mk A n c b)] (some ⟨g120, 0, none⟩) 1 1 w (hok_cons ((src_full (z := 1) 0 rfl rfl sd sd) w hw) (hok_cons (all_cons ((src_rd 5 rfl) w hw) (all_nil w)) (hok_nil w))) sd sd sd (by first | assumption | omega | (simp only [c6_cons, c6_nil, List.append_nil, List.length_append]; omega) | (simp [c6_cons, c6_nil]; done) | (simp [c6_cons, c6_nil]; omega))) (enters_of Try.func18 (by kernel_rfl) rfl) rfl rfl rfl rfl rfl (fun t121 q122 => ?_))
              refine T_slot 34 (.agg ((ptag key (catp [(Pt.mk A n c b)])).map b8).toArray) (.agg ((ptag key b).map b8).toArray) rfl (by rw [c6_one]) ?_
              refine D_on [4, 5] rfl ?_
              refine D_pure (i := 15) [4, 5] rfl (by kernel_rfl) rfl (pr_eqagg (bo := .eql) (c := ((ptag key b) == (ptag key b))) (r := ((ptag key b) == (ptag key b))) (eqb8 (xs := (ptag key b)) (ys := (ptag key b)) Try.underlying27 Try.underlying5 (by kernel_rfl) sd sd) (by kernel_rfl) rfl rfl rfl rfl rfl) (.inr rfl) rfl rfl ?_
              refine D_pure (i := 16) [4, 5] rfl (by kernel_rfl) rfl (pr_pick_t rfl rfl rfl) (.inr rfl) rfl rfl ?_
              refine D_pure (i := 17) [4, 5] rfl (by kernel_rfl) rfl (pr_move rfl rfl) (.inr rfl) rfl rfl ?_
              refine T_slot 35 (.bool ((ptag key b) == (ptag key b))) (.bool true) rfl (congrArg _ (by simp)) ?_
              refine T_slot 36 (.bool ((ptag key b) == (ptag key b))) (.bool true) rfl (congrArg _ (by simp)) ?_
              refine T_slot 37 (.bool ((ptag key b) == (ptag key b))) (.bool true) rfl (congrArg _ (by simp)) ?_
              refine D_pure (i := 19) [4, 5] rfl (by kernel_rfl) rfl (pr_move rfl rfl) (.inr rfl) rfl rfl ?_
              refine D_pure (i := 23) [4, 5] rfl (by kernel_rfl) rfl (pr_move rfl rfl) (.inr rfl) rfl rfl ?_
              refine D_take (i := 18) [4, 5] rfl (by kernel_rfl) rfl (ld_agg (ds := (key.map b8)) 0 rfl agg_all Try.underlying22 rfl (by rw [show ((key.map b8)).length = 32 from sd]; kernel_rfl) rfl rfl) rfl rfl rfl ?_
              refine D_take (i := 22) [4, 5] rfl (by kernel_rfl) rfl (ld_agg (ds := (key.map b8)) 0 rfl agg_all Try.underlying22 rfl (by rw [show ((key.map b8)).length = 32 from sd]; kernel_rfl) rfl rfl) rfl rfl rfl ?_
              refine D_all [20, 24] (by kernel_rfl) (by simp) ⟨⟨_, rfl, rfl, ?_⟩, ⟨_, rfl, rfl, ?_⟩, trivial⟩
              · skip
                refine id (op_bslice (e := 25) (zs := [(.slice none 0 0), (.slice A n c), (.slice none 0 0)]) (qs := [(0, (.slice none 0 0)), (1, (.slice A n c)), (2, (.slice none 0 0))]) (fun _ => by kernel_rfl) rfl rfl rfl rfl (fun g123 => ?_))
                refine D_on [5, 6] rfl ?_
                refine D_all [21, 24] (by kernel_rfl) (by simp) ⟨⟨_, rfl, rfl, ?_⟩, ⟨_, rfl, rfl, ?_⟩, trivial⟩
                · skip
                  refine id (op_call0 (vs := [(.agg (key.map b8).toArray), (.slice (some ⟨g123, 0, none⟩) 3 3)]) (cap := []) (fun w hw => ptag_f key ([(Pt.mk none 0 0 []), (Pt.mk A n c b), (Pt.mk none 0 0 [])]) (some ⟨g123, 0, none⟩) 3 3 w (hok_cons ((src_full (z := 1) 0 rfl rfl sd sd) w hw) (hok_cons (all_cons ((src_nil 1) w hw) (all_cons ((src_rd 6 rfl) w hw) (all_cons ((src_nil 1) w hw) (all_nil w)))) (hok_nil w))) sd sd sd (by first | assumption | omega | (simp only [c6_cons, c6_nil, List.append_nil, List.length_append]; omega) | (simp [c6_cons, c6_nil]; done) | (simp [c6_cons, c6_nil]; omega))) (enters_of Try.func18 (by kernel_rfl) rfl) rfl rfl rfl rfl rfl (fun t124 q125 => ?_))
                  refine T_slot 41 (.agg ((ptag key (catp ([(Pt.mk none 0 0 []), (Pt.mk A n c b), (Pt.mk none 0 0 [])]))).map b8).toArray) (.agg ((ptag key b).map b8).toArray) rfl (by rw [c6_mid]) ?_
                  refine D_on [5, 6] rfl ?_
                  refine D_one 24 _ rfl (by kernel_rfl) rfl (op_bslice (e := 25) (zs := [(.slice A n c)]) (qs := [(0, (.slice A n c))]) (fun _ => by kernel_rfl) rfl rfl rfl rfl (fun g126 => ?_))
                  refine D_on [6, 7] rfl ?_
                  refine D_one 25 _ rfl (by kernel_rfl) rfl (op_call0 (vs := [(.agg (key.map b8).toArray), (.slice (some ⟨g126, 0, none⟩) 1 1)]) (cap := []) (fun w hw => ptag_f key [(Pt.mk A n c b)] (some ⟨g126, 0, none⟩) 1 1 w (hok_cons ((src_full (z := 1) 0 rfl rfl sd sd) w hw) (hok_cons (all_cons ((src_rd 7 rfl) w hw) (all_nil w)) (hok_nil w))) sd sd sd (by first | assumption | omega | (simp only [c6_cons, c6_nil, List.append_nil, List.length_append]; omega) | (simp [c6_cons, c6_nil]; done) | (simp [c6_cons, c6_nil]; omega))) (enters_of Try.func18 (by kernel_rfl) rfl) rfl rfl rfl rfl rfl (fun t127 q128 => ?_))
                  refine T_slot 45 (.agg ((ptag key (catp [(Pt.mk A n c b)])).map b8).toArray) (.agg ((ptag key b).map b8).toArray) rfl (by rw [c6_one]) ?_
                  refine D_on [6, 7] rfl ?_
                  refine D_pure (i := 26) [6, 7] rfl (by kernel_rfl) rfl (pr_eqagg (bo := .eql) (c := ((ptag key b) == (ptag key b))) (r := ((ptag key b) == (ptag key b))) (eqb8 (xs := (ptag key b)) (ys := (ptag key b)) Try.underlying27 Try.underlying5 (by kernel_rfl) sd sd) (by kernel_rfl) rfl rfl rfl rfl rfl) (.inr rfl) rfl rfl ?_
                  refine D_pure (i := 27) [6, 7] rfl (by kernel_rfl) rfl (pr_pick_t rfl rfl rfl) (.inr rfl) rfl rfl ?_
                  refine D_pure (i := 28) [6, 7] rfl (by kernel_rfl) rfl (pr_assign rfl rfl) (.inr rfl) rfl rfl ?_
                  refine D_done (by kernel_rfl) ?_
                  exact T_meet () trivial (sc rfl sn) [6, 7] ⟨by decide, rfl⟩
                · skip
                  refine id (op_bslice (e := 25) (zs := [(.slice A n c)]) (qs := [(0, (.slice A n c))]) (fun _ => by kernel_rfl) rfl rfl rfl rfl (fun g129 => ?_))
                  refine D_on [6, 7] rfl ?_
                  refine D_one 21 _ rfl (by kernel_rfl) rfl (op_call0 (vs := [(.agg (key.map b8).toArray), (.slice (some ⟨g123, 0, none⟩) 3 3)]) (cap := []) (fun w hw => ptag_f key ([(Pt.mk none 0 0 []), (Pt.mk A n c b), (Pt.mk none 0 0 [])]) (some ⟨g123, 0, none⟩) 3 3 w (hok_cons ((src_full (z := 1) 1 rfl rfl sd sd) w hw) (hok_cons (all_cons ((src_nil 1) w hw) (all_cons ((src_rd 7 rfl) w hw) (all_cons ((src_nil 1) w hw) (all_nil w)))) (hok_nil w))) sd sd sd (by first | assumption | omega | (simp only [c6_cons, c6_nil, List.append_nil, List.length_append]; omega) | (simp [c6_cons, c6_nil]; done) | (simp [c6_cons, c6_nil]; omega))) (enters_of Try.func18 (by kernel_rfl) rfl) rfl rfl rfl rfl rfl (fun t130 q131 => ?_))
                  refine T_slot 41 (.agg ((ptag key (catp ([(Pt.mk none 0 0 []), (Pt.mk A n c b), (Pt.mk none 0 0 [])]))).map b8).toArray) (.agg ((ptag key b).map b8).toArray) rfl (by rw [c6_mid]) ?_
                  refine D_on [6, 7] rfl ?_
                  refine D_one 25 _ rfl (by kernel_rfl) rfl (op_call0 (vs := [(.agg (key.map b8).toArray), (.slice (some ⟨g129, 0, none⟩) 1 1)]) (cap := []) (fun w hw => ptag_f key [(Pt.mk A n c b)] (some ⟨g129, 0, none⟩) 1 1 w (hok_cons ((src_full (z := 1) 0 rfl rfl sd sd) w hw) (hok_cons (all_cons ((src_rd 7 rfl) w hw) (all_nil w)) (hok_nil w))) sd sd sd (by first | assumption | omega | (simp only [c6_cons, c6_nil, List.append_nil, List.length_append]; omega) | (simp [c6_cons, c6_nil]; done) | (simp [c6_cons, c6_nil]; omega))) (enters_of Try.func18 (by kernel_rfl) rfl) rfl rfl rfl rfl rfl (fun t132 q133 => ?_))
                  refine T_slot 45 (.agg ((ptag key (catp [(Pt.mk A n c b)])).map b8).toArray) (.agg ((ptag key b).map b8).toArray) rfl (by rw [c6_one]) ?_
                  refine D_on [6, 7] rfl ?_
                  refine D_pure (i := 26) [6, 7] rfl (by kernel_rfl) rfl (pr_eqagg (bo := .eql) (c := ((ptag key b) == (ptag key b))) (r := ((ptag key b) == (ptag key b))) (eqb8 (xs := (ptag key b)) (ys := (ptag key b)) Try.underlying27 Try.underlying5 (by kernel_rfl) sd sd) (by kernel_rfl) rfl rfl rfl rfl rfl) (.inr rfl) rfl rfl ?_
                  refine D_pure (i := 27) [6, 7] rfl (by kernel_rfl) rfl (pr_pick_t rfl rfl rfl) (.inr rfl) rfl rfl ?_
                  refine D_pure (i := 28) [6, 7] rfl (by kernel_rfl) rfl (pr_assign rfl rfl) (.inr rfl) rfl rfl ?_
                  refine D_done (by kernel_rfl) ?_
                  exact T_meet () trivial (sc rfl sn) [6, 7] ⟨by decide, rfl⟩
              · skip
                refine id (op_bslice (e := 25) (zs := [(.slice A n c)]) (qs := [(0, (.slice A n c))]) (fun _ => by kernel_rfl) rfl rfl rfl rfl (fun g134 => ?_))
                refine D_on [5, 6] rfl ?_
                refine D_one 20 _ rfl (by kernel_rfl) rfl (op_bslice (e := 25) (zs := [(.slice none 0 0), (.slice A n c), (.slice none 0 0)]) (qs := [(0, (.slice none 0 0)), (1, (.slice A n c)), (2, (.slice none 0 0))]) (fun _ => by kernel_rfl) rfl rfl rfl rfl (fun g135 => ?_))
                refine D_on [6, 7] rfl ?_
                refine D_one 21 _ rfl (by kernel_rfl) rfl (op_call0 (vs := [(.agg (key.map b8).toArray), (.slice (some ⟨g135, 0, none⟩) 3 3)]) (cap := []) (fun w hw => ptag_f key ([(Pt.mk none 0 0 []), (Pt.mk A n c b), (Pt.mk none 0 0 [])]) (some ⟨g135, 0, none⟩) 3 3 w (hok_cons ((src_full (z := 1) 0 rfl rfl sd sd) w hw) (hok_cons (all_cons ((src_nil 1) w hw) (all_cons ((src_rd 7 rfl) w hw) (all_cons ((src_nil 1) w hw) (all_nil w)))) (hok_nil w))) sd sd sd (by first | assumption | omega | (simp only [c6_cons, c6_nil, List.append_nil, List.length_append]; omega) | (simp [c6_cons, c6_nil]; done) | (simp [c6_cons, c6_nil]; omega))) (enters_of Try.func18 (by kernel_rfl) rfl) rfl rfl rfl rfl rfl (fun t136 q137 => ?_))
                refine T_slot 41 (.agg ((ptag key (catp ([(Pt.mk none 0 0 []), (Pt.mk A n c b), (Pt.mk none 0 0 [])]))).map b8).toArray) (.agg ((ptag key b).map b8).toArray) rfl (by rw [c6_mid]) ?_
                refine D_on [6, 7] rfl ?_
                refine D_one 25 _ rfl (by kernel_rfl) rfl (op_call0 (vs := [(.agg (key.map b8).toArray), (.slice (some ⟨g134, 0, none⟩) 1 1)]) (cap := []) (fun w hw => ptag_f key [(Pt.mk A n c b)] (some ⟨g134, 0, none⟩) 1 1 w (hok_cons ((src_full (z := 1) 1 rfl rfl sd sd) w hw) (hok_cons (all_cons ((src_rd 7 rfl) w hw) (all_nil w)) (hok_nil w))) sd sd sd (by first | assumption | omega | (simp only [c6_cons, c6_nil, List.append_nil, List.length_append]; omega) | (simp [c6_cons, c6_nil]; done) | (simp [c6_cons, c6_nil]; omega))) (enters_of Try.func18 (by kernel_rfl) rfl) rfl rfl rfl rfl rfl (fun t138 q139 => ?_))
                refine T_slot 45 (.agg ((ptag key (catp [(Pt.mk A n c b)])).map b8).toArray) (.agg ((ptag key b).map b8).toArray) rfl (by rw [c6_one]) ?_
                refine D_on [6, 7] rfl ?_
                refine D_pure (i := 26) [6, 7] rfl (by kernel_rfl) rfl (pr_eqagg (bo := .eql) (c := ((ptag key b) == (ptag key b))) (r := ((ptag key b) == (ptag key b))) (eqb8 (xs := (ptag key b)) (ys := (ptag key b)) Try.underlying27 Try.underlying5 (by kernel_rfl) sd sd) (by kernel_rfl) rfl rfl rfl rfl rfl) (.inr rfl) rfl rfl ?_
                refine D_pure (i := 27) [6, 7] rfl (by kernel_rfl) rfl (pr_pick_t rfl rfl rfl) (.inr rfl) rfl rfl ?_
                refine D_pure (i := 28) [6, 7] rfl (by kernel_rfl) rfl (pr_assign rfl rfl) (.inr rfl) rfl rfl ?_
                refine D_done (by kernel_rfl) ?_
                exact T_meet () trivial (sc rfl sn) [6, 7] ⟨by decide, rfl⟩
            · skip
              refine id (op_bslice (e := 25) (zs := [(.slice A n c)]) (qs := [(0, (.slice A n c))]) (fun _ => by kernel_rfl) rfl rfl rfl rfl (fun g140 => ?_))
              refine D_on [4, 5] rfl ?_
              refine D_one 10 _ rfl (by kernel_rfl) rfl (op_call0 (vs := [(.agg (key.map b8).toArray), (.slice (some ⟨g117, 0, none⟩) 2 2)]) (cap := []) (fun w hw => ptag_f key [(Pt.mk B116 kk c (List.take kk b)), (Pt.mk B115 (n - kk) (c - kk) (List.drop kk b))] (some ⟨g117, 0, none⟩) 2 2 w (hok_cons ((src_full (z := 1) 1 rfl rfl sd sd) w hw) (hok_cons (all_cons ((src_rd 2 rfl) w hw) (all_cons ((src_rd 3 rfl) w hw) (all_nil w))) (hok_nil w))) sd sd sd (by first | assumption | omega | (simp only [c6_cons, c6_nil, List.append_nil, List.length_append]; omega) | (simp [c6_cons, c6_nil]; done) | (simp [c6_cons, c6_nil]; omega))) (enters_of Try.func18 (by kernel_rfl) rfl) rfl rfl rfl rfl rfl (fun t141 q142 => ?_))
              refine T_slot 30 (.agg ((ptag key (catp [(Pt.mk B116 kk c (List.take kk b)), (Pt.mk B115 (n - kk) (c - kk) (List.drop kk b))])).map b8).toArray) (.agg ((ptag key b).map b8).toArray) rfl (by rw [c6_two]) ?_
              refine D_on [4, 5] rfl ?_
              refine D_one 14 _ rfl (by kernel_rfl) rfl (op_call0 (vs := [(.agg (key.map b8).toArray), (.slice (some ⟨g140, 0, none⟩) 1 1)]) (cap := []) (fun w hw => ptag_f key [(Pt.mk A n c b)] (some ⟨g140, 0, none⟩) 1 1 w (hok_cons ((src_full (z := 1) 0 rfl rfl sd sd) w hw) (hok_cons (all_cons ((src_rd 5 rfl) w hw) (all_nil w)) (hok_nil w))) sd sd sd (by first | assumption | omega | (simp only [c6_cons, c6_nil, List.append_nil, List.length_append]; omega) | (simp [c6_cons, c6_nil]; done) | (simp [c6_cons, c6_nil]; omega))) (enters_of Try.func18 (by kernel_rfl) rfl) rfl rfl rfl rfl rfl (fun t143 q144 => ?_))
              refine T_slot 34 (.agg ((ptag key (catp [(Pt.mk A n c b)])).map b8).toArray) (.agg ((ptag key b).map b8).toArray) rfl (by rw [c6_one]) ?_
              refine D_on [4, 5] rfl ?_
              refine D_pure (i := 15) [4, 5] rfl (by kernel_rfl) rfl (pr_eqagg (bo := .eql) (c := ((ptag key b) == (ptag key b))) (r := ((ptag key b) == (ptag key b))) (eqb8 (xs := (ptag key b)) (ys := (ptag key b)) Try.underlying27 Try.underlying5 (by kernel_rfl) sd sd) (by kernel_rfl) rfl rfl rfl rfl rfl) (.inr rfl) rfl rfl ?_
              refine D_pure (i := 16) [4, 5] rfl (by kernel_rfl) rfl (pr_pick_t rfl rfl rfl) (.inr rfl) rfl rfl ?_
              refine D_pure (i := 17) [4, 5] rfl (by kernel_rfl) rfl (pr_move rfl rfl) (.inr rfl) rfl rfl ?_
              refine T_slot 35 (.bool ((ptag key b) == (ptag key b))) (.bool true) rfl (congrArg _ (by simp)) ?_
              refine T_slot 36 (.bool ((ptag key b) == (ptag key b))) (.bool true) rfl (congrArg _ (by simp)) ?_
              refine T_slot 37 (.bool ((ptag key b) == (ptag key b))) (.bool true) rfl (congrArg _ (by simp)) ?_
              refine D_pure (i := 19) [4, 5] rfl (by kernel_rfl) rfl (pr_move rfl rfl) (.inr rfl) rfl rfl ?_
              refine D_pure (i := 23) [4, 5] rfl (by kernel_rfl) rfl (pr_move rfl rfl) (.inr rfl) rfl rfl ?_
              refine D_take (i := 18) [4, 5] rfl (by kernel_rfl) rfl (ld_agg (ds := (key.map b8)) 0 rfl agg_all Try.underlying22 rfl (by rw [show ((key.map b8)).length = 32 from sd]; kernel_rfl) rfl rfl) rfl rfl rfl ?_
              refine D_take (i := 22) [4, 5] rfl (by kernel_rfl) rfl (ld_agg (ds := (key.map b8)) 0 rfl agg_all Try.underlying22 rfl (by rw [show ((key.map b8)).length = 32 from sd]; kernel_rfl) rfl rfl) rfl rfl rfl ?_
              refine D_all [20, 24] (by kernel_rfl) (by simp) ⟨⟨_, rfl, rfl, ?_⟩, ⟨_, rfl, rfl, ?_⟩, trivial⟩
              · skip
                refine id (op_bslice (e := 25) (zs := [(.slice none 0 0), (.slice A n c), (.slice none 0 0)]) (qs := [(0, (.slice none 0 0)), (1, (.slice A n c)), (2, (.slice none 0 0))]) (fun _ => by kernel_rfl) rfl rfl rfl rfl (fun g145 => ?_))
                refine D_on [5, 6] rfl ?_
                refine D_all [21, 24] (by kernel_rfl) (by simp) ⟨⟨_, rfl, rfl, ?_⟩, ⟨_, rfl, rfl, ?_⟩, trivial⟩
                · skip
                  refine id (op_call0 (vs := [(.agg (key.map b8).toArray), (.slice (some ⟨g145, 0, none⟩) 3 3)]) (cap := []) (fun w hw => ptag_f key ([(Pt.mk none 0 0 []), (Pt.mk A n c b), (Pt.mk none 0 0 [])]) (some ⟨g145, 0, none⟩) 3 3 w (hok_cons ((src_full (z := 1) 0 rfl rfl sd sd) w hw) (hok_cons (all_cons ((src_nil 1) w hw) (all_cons ((src_rd 6 rfl) w hw) (all_cons ((src_nil 1) w hw) (all_nil w)))) (hok_nil w))) sd sd sd (by first | assumption | omega | (simp only [c6_cons, c6_nil, List.append_nil, List.length_append]; omega) | (simp [c6_cons, c6_nil]; done) | (simp [c6_cons, c6_nil]; omega))) (enters_of Try.func18 (by kernel_rfl) rfl) rfl rfl rfl rfl rfl (fun t146 q147 => ?_))
                  refine T_slot 41 (.agg ((ptag key (catp ([(Pt.mk none 0 0 []), (Pt.mk A n c b), (Pt.mk none 0 0 [])]))).map b8).toArray) (.agg ((ptag key b).map b8).toArray) rfl (by rw [c6_mid]) ?_
                  refine D_on [5, 6] rfl ?_
                  refine D_one 24 _ rfl (by kernel_rfl) rfl (op_bslice (e := 25) (zs := [(.slice A n c)]) (qs := [(0, (.slice A n c))]) (fun _ => by kernel_rfl) rfl rfl rfl rfl (fun g148 => ?_))
                  refine D_on [6, 7] rfl ?_
                  refine D_one 25 _ rfl (by kernel_rfl) rfl (op_call0 (vs := [(.agg (key.map b8).toArray), (.slice (some ⟨g148, 0, none⟩) 1 1)]) (cap := []) (fun w hw => ptag_f key [(Pt.mk A n c b)] (some ⟨g148, 0, none⟩) 1 1 w (hok_cons ((src_full (z := 1) 0 rfl rfl sd sd) w hw) (hok_cons (all_cons ((src_rd 7 rfl) w hw) (all_nil w)) (hok_nil w))) sd sd sd (by first | assumption | omega | (simp only [c6_cons, c6_nil, List.append_nil, List.length_append]; omega) | (simp [c6_cons, c6_nil]; done) | (simp [c6_cons, c6_nil]; omega))) (enters_of Try.func18 (by kernel_rfl) rfl) rfl rfl rfl rfl rfl (fun t149 q150 => ?_))
                  refine T_slot 45 (.agg ((ptag key (catp [(Pt.mk A n c b)])).map b8).toArray) (.agg ((ptag key b).map b8).toArray) rfl (by rw [c6_one]) ?_
                  refine D_on [6, 7] rfl ?_
                  refine D_pure (i := 26) [6, 7] rfl (by kernel_rfl) rfl (pr_eqagg (bo := .eql) (c := ((ptag key b) == (ptag key b))) (r := ((ptag key b) == (ptag key b))) (eqb8 (xs := (ptag key b)) (ys := (ptag key b)) Try.underlying27 Try.underlying5 (by kernel_rfl) sd sd) (by kernel_rfl) rfl rfl rfl rfl rfl) (.inr rfl) rfl rfl ?_
                  refine D_pure (i := 27) [6, 7] rfl (by kernel_rfl) rfl (pr_pick_t rfl rfl rfl) (.inr rfl) rfl rfl ?_
                  refine D_pure (i := 28) [6, 7] rfl (by kernel_rfl) rfl (pr_assign rfl rfl) (.inr rfl) rfl rfl ?_
                  refine D_done (by kernel_rfl) ?_
                  exact T_meet () trivial (sc rfl sn) [6, 7] ⟨by decide, rfl⟩
                · skip
                  refine id (op_bslice (e := 25) (zs := [(.slice A n c)]) (qs := [(0, (.slice A n c))]) (fun _ => by kernel_rfl) rfl rfl rfl rfl (fun g151 => ?_))
                  refine D_on [6, 7] rfl ?_
                  refine D_one 21 _ rfl (by kernel_rfl) rfl (op_call0 (vs := [(.agg (key.map b8).toArray), (.slice (some ⟨g145, 0, none⟩) 3 3)]) (cap := []) (fun w hw => ptag_f key ([(Pt.mk none 0 0 []), (Pt.mk A n c b), (Pt.mk none 0 0 [])]) (some ⟨g145, 0, none⟩) 3 3 w (hok_cons ((src_full (z := 1) 1 rfl rfl sd sd) w hw) (hok_cons (all_cons ((src_nil 1) w hw) (all_cons ((src_rd 7 rfl) w hw) (all_cons ((src_nil 1) w hw) (all_nil w)))) (hok_nil w))) sd sd sd (by first | assumption | omega | (simp only [c6_cons, c6_nil, List.append_nil, List.length_append]; omega) | (simp [c6_cons, c6_nil]; done) | (simp [c6_cons, c6_nil]; omega))) (enters_of Try.func18 (by kernel_rfl) rfl) rfl rfl rfl rfl rfl (fun t152 q153 => ?_))
                  refine T_slot 41 (.agg ((ptag key (catp ([(Pt.mk none 0 0 []), (Pt.mk A n c b), (Pt.mk none 0 0 [])]))).map b8).toArray) (.agg ((ptag key b).map b8).toArray) rfl (by rw [c6_mid]) ?_
                  refine D_on [6, 7] rfl ?_
                  refine D_one 25 _ rfl (by kernel_rfl) rfl (op_call0 (vs := [(.agg (key.map b8).toArray), (.slice (some ⟨g151, 0, none⟩) 1 1)]) (cap := []) (fun w hw => ptag_f key [(Pt.mk A n c b)] (some ⟨g151, 0, none⟩) 1 1 w (hok_cons ((src_full (z := 1) 0 rfl rfl sd sd) w hw) (hok_cons (all_cons ((src_rd 7 rfl) w hw) (all_nil w)) (hok_nil w))) sd sd sd (by first | assumption | omega | (simp only [c6_cons, c6_nil, List.append_nil, List.length_append]; omega) | (simp [c6_cons, c6_nil]; done) | (simp [c6_cons, c6_nil]; omega))) (enters_of Try.func18 (by kernel_rfl) rfl) rfl rfl rfl rfl rfl (fun t154 q155 => ?_))
                  refine T_slot 45 (.agg ((ptag key (catp [(Pt.mk A n c b)])).map b8).toArray) (.agg ((ptag key b).map b8).toArray) rfl (by rw [c6_one]) ?_
                  refine D_on [6, 7] rfl ?_
                  refine D_pure (i := 26) [6, 7] rfl (by kernel_rfl) rfl (pr_eqagg (bo := .eql) (c := ((ptag key b) == (ptag key b))) (r := ((ptag key b) == (ptag key b))) (eqb8 (xs := (ptag key b)) (ys := (ptag key b)) Try.underlying27 Try.underlying5 (by kernel_rfl) sd sd) (by kernel_rfl) rfl rfl rfl rfl rfl) (.inr rfl) rfl rfl ?_
                  refine D_pure (i := 27) [6, 7] rfl (by kernel_rfl) rfl (pr_pick_t rfl rfl rfl) (.inr rfl) rfl rfl ?_
                  refine D_pure (i := 28) [6, 7] rfl (by kernel_rfl) rfl (pr_assign rfl rfl) (.inr rfl) rfl rfl ?_
                  refine D_done (by kernel_rfl) ?_
                  exact T_meet () trivial (sc rfl sn) [6, 7] ⟨by decide, rfl⟩
              · skip
                refine id (op_bslice (e := 25) (zs := [(.slice A n c)]) (qs := [(0, (.slice A n c))]) (fun _ => by kernel_rfl) rfl rfl rfl rfl (fun g156 => ?_))
                refine D_on [5, 6] rfl ?_
                refine D_one 20 _ rfl (by kernel_rfl) rfl (op_bslice (e := 25) (zs := [(.slice none 0 0), (.slice A n c), (.slice none 0 0)]) (qs := [(0, (.slice none 0 0)), (1, (.slice A n c)), (2, (.slice none 0 0))]) (fun _ => by kernel_rfl) rfl rfl rfl rfl (fun g157 => ?_))
                refine D_on [6, 7] rfl ?_
                refine D_one 21 _ rfl (by kernel_rfl) rfl (op_call0 (vs := [(.agg (key.map b8).toArray), (.slice (some ⟨g157, 0, none⟩) 3 3)]) (cap := []) (fun w hw => ptag_f key ([(Pt.mk none 0 0 []), (Pt.mk A n c b), (Pt.mk none 0 0 [])]) (some ⟨g157, 0, none⟩) 3 3 w (hok_cons ((src_full (z := 1) 0 rfl rfl sd sd) w hw) (hok_cons (all_cons ((src_nil 1) w hw) (all_cons ((src_rd 7 rfl) w hw) (all_cons ((src_nil 1) w hw) (all_nil w)))) (hok_nil w))) sd sd sd (by first | assumption | omega | (simp only [c6_cons, c6_nil, List.append_nil, List.length_append]; omega) | (simp [c6_cons, c6_nil]; done) | (simp [c6_cons, c6_nil]; omega))) (enters_of Try.func18 (by kernel_rfl) rfl) rfl rfl rfl rfl rfl (fun t158 q159 => ?_))
                refine T_slot 41 (.agg ((ptag key (catp ([(Pt.mk none 0 0 []), (Pt.mk A n c b), (Pt.mk none 0 0 [])]))).map b8).toArray) (.agg ((ptag key b).map b8).toArray) rfl (by rw [c6_mid]) ?_
                refine D_on [6, 7] rfl ?_
                refine D_one 25 _ rfl (by kernel_rfl) rfl (op_call0 (vs := [(.agg (key.map b8).toArray), (.slice (some ⟨g156, 0, none⟩) 1 1)]) (cap := []) (fun w hw => ptag_f key [(Pt.mk A n c b)] (some ⟨g156, 0, none⟩) 1 1 w (hok_cons ((src_full (z := 1) 1 rfl rfl sd sd) w hw) (hok_cons (all_cons ((src_rd 7 rfl) w hw) (all_nil w)) (hok_nil w))) sd sd sd (by first | assumption | omega | (simp only [c6_cons, c6_nil, List.append_nil, List.length_append]; omega) | (simp [c6_cons, c6_nil]; done) | (simp [c6_cons, c6_nil]; omega))) (enters_of Try.func18 (by kernel_rfl) rfl) rfl rfl rfl rfl rfl (fun t160 q161 => ?_))
                refine T_slot 45 (.agg ((ptag key (catp [(Pt.mk A n c b)])).map b8).toArray) (.agg ((ptag key b).map b8).toArray) rfl (by rw [c6_one]) ?_
                refine D_on [6, 7] rfl ?_
                refine D_pure (i := 26) [6, 7] rfl (by kernel_rfl) rfl (pr_eqagg (bo := .eql) (c := ((ptag key b) == (ptag key b))) (r := ((ptag key b) == (ptag key b))) (eqb8 (xs := (ptag key b)) (ys := (ptag key b)) Try.underlying27 Try.underlying5 (by kernel_rfl) sd sd) (by kernel_rfl) rfl rfl rfl rfl rfl) (.inr rfl) rfl rfl ?_
                refine D_pure (i := 27) [6, 7] rfl (by kernel_rfl) rfl (pr_pick_t rfl rfl rfl) (.inr rfl) rfl rfl ?_
                refine D_pure (i := 28) [6, 7] rfl (by kernel_rfl) rfl (pr_assign rfl rfl) (.inr rfl) rfl rfl ?_
                refine D_done (by kernel_rfl) ?_
                exact T_meet () trivial (sc rfl sn) [6, 7] ⟨by decide, rfl⟩
          · skip
            refine id (op_bslice (e := 25) (zs := [(.slice A n c)]) (qs := [(0, (.slice A n c))]) (fun _ => by kernel_rfl) rfl rfl rfl rfl (fun g162 => ?_))
            refine D_on [3, 4] rfl ?_
            refine D_one 9 _ rfl (by kernel_rfl) rfl (op_bslice (e := 25) (zs := [(.slice B116 kk c), (.slice B115 (n - kk) (c - kk))]) (qs := [(0, (.slice B116 kk c)), (1, (.slice B115 (n - kk) (c - kk)))]) (fun _ => by kernel_rfl) rfl rfl rfl rfl (fun g163 => ?_))
            refine D_on [4, 5] rfl ?_
            refine D_one 10 _ rfl (by kernel_rfl) rfl (op_call0 (vs := [(.agg (key.map b8).toArray), (.slice (some ⟨g163, 0, none⟩) 2 2)]) (cap := []) (fun w hw => ptag_f key [(Pt.mk B116 kk c (List.take kk b)), (Pt.mk B115 (n - kk) (c - kk) (List.drop kk b))] (some ⟨g163, 0, none⟩) 2 2 w (hok_cons ((src_full (z := 1) 0 rfl rfl sd sd) w hw) (hok_cons (all_cons ((src_rd 2 rfl) w hw) (all_cons ((src_rd 3 rfl) w hw) (all_nil w))) (hok_nil w))) sd sd sd (by first | assumption | omega | (simp only [c6_cons, c6_nil, List.append_nil, List.length_append]; omega) | (simp [c6_cons, c6_nil]; done) | (simp [c6_cons, c6_nil]; omega))) (enters_of Try.func18 (by kernel_rfl) rfl) rfl rfl rfl rfl rfl (fun t164 q165 => ?_))
            refine T_slot 30 (.agg ((ptag key (catp [(Pt.mk B116 kk c (List.take kk b)), (Pt.mk B115 (n - kk) (c - kk) (List.drop kk b))])).map b8).toArray) (.agg ((ptag key b).map b8).toArray) rfl (by rw [c6_two]) ?_
            refine D_on [4, 5] rfl ?_
            refine D_one 14 _ rfl (by kernel_rfl) rfl (op_call0 (vs := [(.agg (key.map b8).toArray), (.slice (some ⟨g162, 0, none⟩) 1 1)]) (cap := []) (fun w hw => ptag_f key [(Pt.mk A n c b)] (some ⟨g162, 0, none⟩) 1 1 w (hok_cons ((src_full (z := 1) 1 rfl rfl sd sd) w hw) (hok_cons (all_cons ((src_rd 5 rfl) w hw) (all_nil w)) (hok_nil w))) sd sd sd (by first | assumption | omega | (simp only [c6_cons, c6_nil, List.append_nil, List.length_append]; omega) | (simp [c6_cons, c6_nil]; done) | (simp [c6_cons, c6_nil]; omega))) (enters_of Try.func18 (by kernel_rfl) rfl) rfl rfl rfl rfl rfl (fun t166 q167 => ?_))
            refine T_slot 34 (.agg ((ptag key (catp [(Pt.mk A n c b)])).map b8).toArray) (.agg ((ptag key b).map b8).toArray) rfl (by rw [c6_one]) ?_
            refine D_on [4, 5] rfl ?_
            refine D_pure (i := 15) [4, 5] rfl (by kernel_rfl) rfl (pr_eqagg (bo := .eql) (c := ((ptag key b) == (ptag key b))) (r := ((ptag key b) == (ptag key b))) (eqb8 (xs := (ptag key b)) (ys := (ptag key b)) Try.underlying27 Try.underlying5 (by kernel_rfl) sd sd) (by kernel_rfl) rfl rfl rfl rfl rfl) (.inr rfl) rfl rfl ?_
            refine D_pure (i := 16) [4, 5] rfl (by kernel_rfl) rfl (pr_pick_t rfl rfl rfl) (.inr rfl) rfl rfl ?_
            refine D_pure (i := 17) [4, 5] rfl (by kernel_rfl) rfl (pr_move rfl rfl) (.inr rfl) rfl rfl ?_
            refine T_slot 35 (.bool ((ptag key b) == (ptag key b))) (.bool true) rfl (congrArg _ (by simp)) ?_
            refine T_slot 36 (.bool ((ptag key b) == (ptag key b))) (.bool true) rfl (congrArg _ (by simp)) ?_
            refine T_slot 37 (.bool ((ptag key b) == (ptag key b))) (.bool true) rfl (congrArg _ (by simp)) ?_
            refine D_pure (i := 19) [4, 5] rfl (by kernel_rfl) rfl (pr_move rfl rfl) (.inr rfl) rfl rfl ?_
            refine D_pure (i := 23) [4, 5] rfl (by kernel_rfl) rfl (pr_move rfl rfl) (.inr rfl) rfl rfl ?_
            refine D_take (i := 18) [4, 5] rfl (by kernel_rfl) rfl (ld_agg (ds := (key.map b8)) 0 rfl agg_all Try.underlying22 rfl (by rw [show ((key.map b8)).length = 32 from sd]; kernel_rfl) rfl rfl) rfl rfl rfl ?_
            refine D_take (i := 22) [4, 5] rfl (by kernel_rfl) rfl (ld_agg (ds := (key.map b8)) 0 rfl agg_all Try.underlying22 rfl (by rw [show ((key.map b8)).length = 32 from sd]; kernel_rfl) rfl rfl) rfl rfl rfl ?_
            refine D_all [20, 24] (by kernel_rfl) (by simp) ⟨⟨_, rfl, rfl, ?_⟩, ⟨_, rfl, rfl, ?_⟩, trivial⟩
            · skip
              refine id (op_bslice (e := 25) (zs := [(.slice none 0 0), (.slice A n c), (.slice none 0 0)]) (qs := [(0, (.slice none 0 0)), (1, (.slice A n c)), (2, (.slice none 0 0))]) (fun _ => by kernel_rfl) rfl rfl rfl rfl (fun g168 => ?_))
              refine D_on [5, 6] rfl ?_
              refine D_all [21, 24] (by kernel_rfl) (by simp) ⟨⟨_, rfl, rfl, ?_⟩, ⟨_, rfl, rfl, ?_⟩, trivial⟩
              · skip
                refine id (op_call0 (vs := [(.agg (key.map b8).toArray), (.slice (some ⟨g168, 0, none⟩) 3 3)]) (cap := []) (fun w hw => ptag_f key ([(Pt.mk none 0 0 []), (Pt.mk A n c b), (Pt.mk none 0 0 [])]) (some ⟨g168, 0, none⟩) 3 3 w (hok_cons ((src_full (z := 1) 0 rfl rfl sd sd) w hw) (hok_cons (all_cons ((src_nil 1) w hw) (all_cons ((src_rd 6 rfl) w hw) (all_cons ((src_nil 1) w hw) (all_nil w)))) (hok_nil w))) sd sd sd (by first | assumption | omega | (simp only [c6_cons, c6_nil, List.append_nil, List.length_append]; omega) | (simp [c6_cons, c6_nil]; done) | (simp [c6_cons, c6_nil]; omega))) (enters_of Try.func18 (by kernel_rfl) rfl) rfl rfl rfl rfl rfl (fun t169 q170 => ?_))
                refine T_slot 41 (.agg ((ptag key (catp ([(Pt.mk none 0 0 []), (Pt.mk A n c b), (Pt.mk none 0 0 [])]))).map b8).toArray) (.agg ((ptag key b).map b8).toArray) rfl (by rw [c6_mid]) ?_
                refine D_on [5, 6] rfl ?_
                refine D_one 24 _ rfl (by kernel_rfl) rfl (op_bslice (e := 25) (zs := [(.slice A n c)]) (qs := [(0, (.slice A n c))]) (fun _ => by kernel_rfl) rfl rfl rfl rfl (fun g171 => ?_))
                refine D_on [6, 7] rfl ?_
                refine D_one 25 _ rfl (by kernel_rfl) rfl (op_call0 (vs := [(.agg (key.map b8).toArray), (.slice (some ⟨g171, 0, none⟩) 1 1)]) (cap := []) (fun w hw => ptag_f key [(Pt.mk A n c b)] (some ⟨g171, 0, none⟩) 1 1 w (hok_cons ((src_full (z := 1) 0 rfl rfl sd sd) w hw) (hok_cons (all_cons ((src_rd 7 rfl) w hw) (all_nil w)) (hok_nil w))) sd sd sd (by first | assumption | omega | (simp only [c6_cons, c6_nil, List.append_nil, List.length_append]; omega) | (simp [c6_cons, c6_nil]; done) | (simp [c6_cons, c6_nil]; omega))) (enters_of Try.func18 (by kernel_rfl) rfl) rfl rfl rfl rfl rfl (fun t172 q173 => ?_))
                refine T_slot 45 (.agg ((ptag key (catp [(Pt.mk A n c b)])).map b8).toArray) (.agg ((ptag key b).map b8).toArray) rfl (by rw [c6_one]) ?_
                refine D_on [6, 7] rfl ?_
                refine D_pure (i := 26) [6, 7] rfl (by kernel_rfl) rfl (pr_eqagg (bo := .eql) (c := ((ptag key b) == (ptag key b))) (r := ((ptag key b) == (ptag key b))) (eqb8 (xs := (ptag key b)) (ys := (ptag key b)) Try.underlying27 Try.underlying5 (by kernel_rfl) sd sd) (by kernel_rfl) rfl rfl rfl rfl rfl) (.inr rfl) rfl rfl ?_
                refine D_pure (i := 27) [6, 7] rfl (by kernel_rfl) rfl (pr_pick_t rfl rfl rfl) (.inr rfl) rfl rfl ?_
                refine D_pure (i := 28) [6, 7] rfl (by kernel_rfl) rfl (pr_assign rfl rfl) (.inr rfl) rfl rfl ?_
                refine D_done (by kernel_rfl) ?_
                exact T_meet () trivial (sc rfl sn) [6, 7] ⟨by decide, rfl⟩
              · skip
                refine id (op_bslice (e := 25) (zs := [(.slice A n c)]) (qs := [(0, (.slice A n c))]) (fun _ => by kernel_rfl) rfl rfl rfl rfl (fun g174 => ?_))
                refine D_on [6, 7] rfl ?_
                refine D_one 21 _ rfl (by kernel_rfl) rfl (op_call0 (vs := [(.agg (key.map b8).toArray), (.slice (some ⟨g168, 0, none⟩) 3 3)]) (cap := []) (fun w hw => ptag_f key ([(Pt.mk none 0 0 []), (Pt.mk A n c b), (Pt.mk none 0 0 [])]) (some ⟨g168, 0, none⟩) 3 3 w (hok_cons ((src_full (z := 1) 1 rfl rfl sd sd) w hw) (hok_cons (all_cons ((src_nil 1) w hw) (all_cons ((src_rd 7 rfl) w hw) (all_cons ((src_nil 1) w hw) (all_nil w)))) (hok_nil w))) sd sd sd (by first | assumption | omega | (simp only [c6_cons, c6_nil, List.append_nil, List.length_append]; omega) | (simp [c6_cons, c6_nil]; done) | (simp [c6_cons, c6_nil]; omega))) (enters_of Try.func18 (by kernel_rfl) rfl) rfl rfl rfl rfl rfl (fun t175 q176 => ?_))
                refine T_slot 41 (.agg ((ptag key (catp ([(Pt.mk none 0 0 []), (Pt.mk A n c b), (Pt.mk none 0 0 [])]))).map b8).toArray) (.agg ((ptag key b).map b8).toArray) rfl (by rw [c6_mid]) ?_
                refine D_on [6, 7] rfl ?_
                refine D_one 25 _ rfl (by kernel_rfl) rfl (op_call0 (vs := [(.agg (key.map b8).toArray), (.slice (some ⟨g174, 0, none⟩) 1 1)]) (cap := []) (fun w hw => ptag_f key [(Pt.mk A n c b)] (some ⟨g174, 0, none⟩) 1 1 w (hok_cons ((src_full (z := 1) 0 rfl rfl sd sd) w hw) (hok_cons (all_cons ((src_rd 7 rfl) w hw) (all_nil w)) (hok_nil w))) sd sd sd (by first | assumption | omega | (simp only [c6_cons, c6_nil, List.append_nil, List.length_append]; omega) | (simp [c6_cons, c6_nil]; done) | (simp [c6_cons, c6_nil]; omega))) (enters_of Try.func18 (by kernel_rfl) rfl) rfl rfl rfl rfl rfl (fun t177 q178 => ?_))
                refine T_slot 45 (.agg ((ptag key (catp [(Pt.mk A n c b)])).map b8).toArray) (.agg ((ptag key b).map b8).toArray) rfl (by rw [c6_one]) ?_
                refine D_on [6, 7] rfl ?_
                refine D_pure (i := 26) [6, 7] rfl (by kernel_rfl) rfl (pr_eqagg (bo := .eql) (c := ((ptag key b) == (ptag key b))) (r := ((ptag key b) == (ptag key b))) (eqb8 (xs := (ptag key b)) (ys := (ptag key b)) Try.underlying27 Try.underlying5 (by kernel_rfl) sd sd) (by kernel_rfl) rfl rfl rfl rfl rfl) (.inr rfl) rfl rfl ?_
                refine D_pure (i := 27) [6, 7] rfl (by kernel_rfl) rfl (pr_pick_t rfl rfl rfl) (.inr rfl) rfl rfl ?_
                refine D_pure (i := 28) [6, 7] rfl (by kernel_rfl) rfl (pr_assign rfl rfl) (.inr rfl) rfl rfl ?_
                refine D_done (by kernel_rfl) ?_
                exact T_meet () trivial (sc rfl sn) [6, 7] ⟨by decide, rfl⟩
            · skip
              refine id (op_bslice (e := 25) (zs := [(.slice A n c)]) (qs := [(0, (.slice A n c))]) (fun _ => by kernel_rfl) rfl rfl rfl rfl (fun g179 => ?_))
              refine D_on [5, 6] rfl ?_
              refine D_one 20 _ rfl (by kernel_rfl) rfl (op_bslice (e := 25) (zs := [(.slice none 0 0), (.slice A n c), (.slice none 0 0)]) (qs := [(0, (.slice none 0 0)), (1, (.slice A n c)), (2, (.slice none 0 0))]) (fun _ => by kernel_rfl) rfl rfl rfl rfl (fun g180 => ?_))
              refine D_on [6, 7] rfl ?_
              refine D_one 21 _ rfl (by kernel_rfl) rfl (op_call0 (vs := [(.agg (key.map b8).toArray), (.slice (some ⟨g180, 0, none⟩) 3 3)]) (cap := []) (fun w hw => ptag_f key ([(Pt.mk none 0 0 []), (Pt.mk A n c b), (Pt.mk none 0 0 [])]) (some ⟨g180, 0, none⟩) 3 3 w (hok_cons ((src_full (z := 1) 0 rfl rfl sd sd) w hw) (hok_cons (all_cons ((src_nil 1) w hw) (all_cons ((src_rd 7 rfl) w hw) (all_cons ((src_nil 1) w hw) (all_nil w)))) (hok_nil w))) sd sd sd (by first | assumption | omega | (simp only [c6_cons, c6_nil, List.append_nil, List.length_append]; omega) | (simp [c6_cons, c6_nil]; done) | (simp [c6_cons, c6_nil]; omega))) (enters_of Try.func18 (by kernel_rfl) rfl) rfl rfl rfl rfl rfl (fun t181 q182 => ?_))
              refine T_slot 41 (.agg ((ptag key (catp ([(Pt.mk none 0 0 []), (Pt.mk A n c b), (Pt.mk none 0 0 [])]))).map b8).toArray) (.agg ((ptag key b).map b8).toArray) rfl (by rw [c6_mid]) ?_
              refine D_on [6, 7] rfl ?_
              refine D_one 25 _ rfl (by kernel_rfl) rfl (op_call0 (vs := [(.agg (key.map b8).toArray), (.slice (some ⟨g179, 0, none⟩) 1 1)]) (cap := []) (fun w hw => ptag_f key [(Pt.mk A n c b)] (some ⟨g179, 0, none⟩) 1 1 w (hok_cons ((src_full (z := 1) 1 rfl rfl sd sd) w hw) (hok_cons (all_cons ((src_rd 7 rfl) w hw) (all_nil w)) (hok_nil w))) sd sd sd (by first | assumption | omega | (simp only [c6_cons, c6_nil, List.append_nil, List.length_append]; omega) | (simp [c6_cons, c6_nil]; done) | (simp [c6_cons, c6_nil]; omega))) (enters_of Try.func18 (by kernel_rfl) rfl) rfl rfl rfl rfl rfl (fun t183 q184 => ?_))
              refine T_slot 45 (.agg ((ptag key (catp [(Pt.mk A n c b)])).map b8).toArray) (.agg ((ptag key b).map b8).toArray) rfl (by rw [c6_one]) ?_
              refine D_on [6, 7] rfl ?_
              refine D_pure (i := 26) [6, 7] rfl (by kernel_rfl) rfl (pr_eqagg (bo := .eql) (c := ((ptag key b) == (ptag key b))) (r := ((ptag key b) == (ptag key b))) (eqb8 (xs := (ptag key b)) (ys := (ptag key b)) Try.underlying27 Try.underlying5 (by kernel_rfl) sd sd) (by kernel_rfl) rfl rfl rfl rfl rfl) (.inr rfl) rfl rfl ?_
              refine D_pure (i := 27) [6, 7] rfl (by kernel_rfl) rfl (pr_pick_t rfl rfl rfl) (.inr rfl) rfl rfl ?_
              refine D_pure (i := 28) [6, 7] rfl (by kernel_rfl) rfl (pr_assign rfl rfl) (.inr rfl) rfl rfl ?_
              refine D_done (by kernel_rfl) ?_
              exact T_meet () trivial (sc rfl sn) [6, 7] ⟨by decide, rfl⟩
        · skip
          refine id (op_bslice (e := 25) (zs := [(.slice A n c)]) (qs := [(0, (.slice A n c))]) (fun _ => by kernel_rfl) rfl rfl rfl rfl (fun g185 => ?_))
          refine D_on [2, 3] rfl ?_
          refine D_one 5 _ rfl (by kernel_rfl) rfl (op_slice_rd (l := 0) (u := kk) 3 rfl sd sd Try.underlying25 (by kernel_rfl) rfl rfl rfl ⟨_, rfl⟩ rfl rfl (fun B186 => ?_))
          refine T_as 0 _ (.rd B186 1 kk c ((List.take kk b).map b8)) rfl (by congr 1; simp [List.map_take, List.map_drop] <;> omega) ?_
          refine T_slot 25 _ (.slice B186 kk c) rfl (by congr 1) ?_
          refine D_on [3, 4] rfl ?_
          refine D_one 9 _ rfl (by kernel_rfl) rfl (op_bslice (e := 25) (zs := [(.slice B186 kk c), (.slice B115 (n - kk) (c - kk))]) (qs := [(0, (.slice B186 kk c)), (1, (.slice B115 (n - kk) (c - kk)))]) (fun _ => by kernel_rfl) rfl rfl rfl rfl (fun g187 => ?_))
          refine D_on [4, 5] rfl ?_
          refine D_one 10 _ rfl (by kernel_rfl) rfl (op_call0 (vs := [(.agg (key.map b8).toArray), (.slice (some ⟨g187, 0, none⟩) 2 2)]) (cap := []) (fun w hw => ptag_f key [(Pt.mk B186 kk c (List.take kk b)), (Pt.mk B115 (n - kk) (c - kk) (List.drop kk b))] (some ⟨g187, 0, none⟩) 2 2 w (hok_cons ((src_full (z := 1) 0 rfl rfl sd sd) w hw) (hok_cons (all_cons ((src_rd 1 rfl) w hw) (all_cons ((src_rd 3 rfl) w hw) (all_nil w))) (hok_nil w))) sd sd sd (by first | assumption | omega | (simp only [c6_cons, c6_nil, List.append_nil, List.length_append]; omega) | (simp [c6_cons, c6_nil]; done) | (simp [c6_cons, c6_nil]; omega))) (enters_of Try.func18 (by kernel_rfl) rfl) rfl rfl rfl rfl rfl (fun t188 q189 => ?_))
          refine T_slot 30 (.agg ((ptag key (catp [(Pt.mk B186 kk c (List.take kk b)), (Pt.mk B115 (n - kk) (c - kk) (List.drop kk b))])).map b8).toArray) (.agg ((ptag key b).map b8).toArray) rfl (by rw [c6_two]) ?_
          refine D_on [4, 5] rfl ?_
          refine D_one 14 _ rfl (by kernel_rfl) rfl (op_call0 (vs := [(.agg (key.map b8).toArray), (.slice (some ⟨g185, 0, none⟩) 1 1)]) (cap := []) (fun w hw => ptag_f key [(Pt.mk A n c b)] (some ⟨g185, 0, none⟩) 1 1 w (hok_cons ((src_full (z := 1) 2 rfl rfl sd sd) w hw) (hok_cons (all_cons ((src_rd 5 rfl) w hw) (all_nil w)) (hok_nil w))) sd sd sd (by first | assumption | omega | (simp only [c6_cons, c6_nil, List.append_nil, List.length_append]; omega) | (simp [c6_cons, c6_nil]; done) | (simp [c6_cons, c6_nil]; omega))) (enters_of Try.func18 (by kernel_rfl) rfl) rfl rfl rfl rfl rfl (fun t190 q191 => ?_))
          refine T_slot 34 (.agg ((ptag key (catp [(Pt.mk A n c b)])).map b8).toArray) (.agg ((ptag key b).map b8).toArray) rfl (by rw [c6_one]) ?_
          refine D_on [4, 5] rfl ?_
          refine D_pure (i := 15) [4, 5] rfl (by kernel_rfl) rfl (pr_eqagg (bo := .eql) (c := ((ptag key b) == (ptag key b))) (r := ((ptag key b) == (ptag key b))) (eqb8 (xs := (ptag key b)) (ys := (ptag key b)) Try.underlying27 Try.underlying5 (by kernel_rfl) sd sd) (by kernel_rfl) rfl rfl rfl rfl rfl) (.inr rfl) rfl rfl ?_
          refine D_pure (i := 16) [4, 5] rfl (by kernel_rfl) rfl (pr_pick_t rfl rfl rfl) (.inr rfl) rfl rfl ?_
          refine D_pure (i := 17) [4, 5] rfl (by kernel_rfl) rfl (pr_move rfl rfl) (.inr rfl) rfl rfl ?_
          refine T_slot 35 (.bool ((ptag key b) == (ptag key b))) (.bool true) rfl (congrArg _ (by simp)) ?_
          refine T_slot 36 (.bool ((ptag key b) == (ptag key b))) (.bool true) rfl (congrArg _ (by simp)) ?_
          refine T_slot 37 (.bool ((ptag key b) == (ptag key b))) (.bool true) rfl (congrArg _ (by simp)) ?_
          refine D_pure (i := 19) [4, 5] rfl (by kernel_rfl) rfl (pr_move rfl rfl) (.inr rfl) rfl rfl ?_
          refine D_pure (i := 23) [4, 5] rfl (by kernel_rfl) rfl (pr_move rfl rfl) (.inr rfl) rfl rfl ?_
          refine D_take (i := 18) [4, 5] rfl (by kernel_rfl) rfl (ld_agg (ds := (key.map b8)) 0 rfl agg_all Try.underlying22 rfl (by rw [show ((key.map b8)).length = 32 from sd]; kernel_rfl) rfl rfl) rfl rfl rfl ?_
          refine D_take (i := 22) [4, 5] rfl (by kernel_rfl) rfl (ld_agg (ds := (key.map b8)) 0 rfl agg_all Try.underlying22 rfl (by rw [show ((key.map b8)).length = 32 from sd]; kernel_rfl) rfl rfl) rfl rfl rfl ?_
          refine D_all [20, 24] (by kernel_rfl) (by simp) ⟨⟨_, rfl, rfl, ?_⟩, ⟨_, rfl, rfl, ?_⟩, trivial⟩
          · skip
            refine id (op_bslice (e := 25) (zs := [(.slice none 0 0), (.slice A n c), (.slice none 0 0)]) (qs := [(0, (.slice none 0 0)), (1, (.slice A n c)), (2, (.slice none 0 0))]) (fun _ => by kernel_rfl) rfl rfl rfl rfl (fun g192 => ?_))
            refine D_on [5, 6] rfl ?_
            refine D_all [21, 24] (by kernel_rfl) (by simp) ⟨⟨_, rfl, rfl, ?_⟩, ⟨_, rfl, rfl, ?_⟩, trivial⟩
            · skip
              refine id (op_call0 (vs := [(.agg (key.map b8).toArray), (.slice (some ⟨g192, 0, none⟩) 3 3)]) (cap := []) (fun w hw => ptag_f key ([(Pt.mk none 0 0 []), (Pt.mk A n c b), (Pt.mk none 0 0 [])]) (some ⟨g192, 0, none⟩) 3 3 w (hok_cons ((src_full (z := 1) 0 rfl rfl sd sd) w hw) (hok_cons (all_cons ((src_nil 1) w hw) (all_cons ((src_rd 6 rfl) w hw) (all_cons ((src_nil 1) w hw) (all_nil w)))) (hok_nil w))) sd sd sd (by first | assumption | omega | (simp only [c6_cons, c6_nil, List.append_nil, List.length_append]; omega) | (simp [c6_cons, c6_nil]; done) | (simp [c6_cons, c6_nil]; omega))) (enters_of Try.func18 (by kernel_rfl) rfl) rfl rfl rfl rfl rfl (fun t193 q194 => ?_))
              refine T_slot 41 (.agg ((ptag key (catp ([(Pt.mk none 0 0 []), (Pt.mk A n c b), (Pt.mk none 0 0 [])]))).map b8).toArray) (.agg ((ptag key b).map b8).toArray) rfl (by rw [c6_mid]) ?_
              refine D_on [5, 6] rfl ?_
              refine D_one 24 _ rfl (by kernel_rfl) rfl (op_bslice (e := 25) (zs := [(.slice A n c)]) (qs := [(0, (.slice A n c))]) (fun _ => by kernel_rfl) rfl rfl rfl rfl (fun g195 => ?_))
              refine D_on [6, 7] rfl ?_
              refine D_one 25 _ rfl (by kernel_rfl) rfl (op_call0 (vs := [(.agg (key.map b8).toArray), (.slice (some ⟨g195, 0, none⟩) 1 1)]) (cap := []) (fun w hw => ptag_f key [(Pt.mk A n c b)] (some ⟨g195, 0, none⟩) 1 1 w (hok_cons ((src_full (z := 1) 0 rfl rfl sd sd) w hw) (hok_cons (all_cons ((src_rd 7 rfl) w hw) (all_nil w)) (hok_nil w))) sd sd sd (by first | assumption | omega | (simp only [c6_cons, c6_nil, List.append_nil, List.length_append]; omega) | (simp [c6_cons, c6_nil]; done) | (simp [c6_cons, c6_nil]; omega))) (enters_of Try.func18 (by kernel_rfl) rfl) rfl rfl rfl rfl rfl (fun t196 q197 => ?_))
              refine T_slot 45 (.agg ((ptag key (catp [(Pt.mk A n c b)])).map b8).toArray) (.agg ((ptag key b).map b8).toArray) rfl (by rw [c6_one]) ?_
              refine D_on [6, 7] rfl ?_
              refine D_pure (i := 26) [6, 7] rfl (by kernel_rfl) rfl (pr_eqagg (bo := .eql) (c := ((ptag key b) == (ptag key b))) (r := ((ptag key b) == (ptag key b))) (eqb8 (xs := (ptag key b)) (ys := (ptag key b)) Try.underlying27 Try.underlying5 (by kernel_rfl) sd sd) (by kernel_rfl) rfl rfl rfl rfl rfl) (.inr rfl) rfl rfl ?_
              refine D_pure (i := 27) [6, 7] rfl (by kernel_rfl) rfl (pr_pick_t rfl rfl rfl) (.inr rfl) rfl rfl ?_
              refine D_pure (i := 28) [6, 7] rfl (by kernel_rfl) rfl (pr_assign rfl rfl) (.inr rfl) rfl rfl ?_
              refine D_done (by kernel_rfl) ?_
              exact T_meet () trivial (sc rfl sn) [6, 7] ⟨by decide, rfl⟩
            · skip
              refine id (op_bslice (e := 25) (zs := [(.slice A n c)]) (qs := [(0, (.slice A n c))]) (fun _ => by kernel_rfl) rfl rfl rfl rfl (fun g198 => ?_))
              refine D_on [6, 7] rfl ?_
              refine D_one 21 _ rfl (by kernel_rfl) rfl (op_call0 (vs := [(.agg (key.map b8).toArray), (.slice (some ⟨g192, 0, none⟩) 3 3)]) (cap := []) (fun w hw => ptag_f key ([(Pt.mk none 0 0 []), (Pt.mk A n c b), (Pt.mk none 0 0 [])]) (some ⟨g192, 0, none⟩) 3 3 w (hok_cons ((src_full (z := 1) 1 rfl rfl sd sd) w hw) (hok_cons (all_cons ((src_nil 1) w hw) (all_cons ((src_rd 7 rfl) w hw) (all_cons ((src_nil 1) w hw) (all_nil w)))) (hok_nil w))) sd sd sd (by first | assumption | omega | (simp only [c6_cons, c6_nil, List.append_nil, List.length_append]; omega) | (simp [c6_cons, c6_nil]; done) | (simp [c6_cons, c6_nil]; omega))) (enters_of Try.func18 (by kernel_rfl) rfl) rfl rfl rfl rfl rfl (fun t199 q200 => ?_))
              refine T_slot 41 (.agg ((ptag key (catp ([(Pt.mk none 0 0 []), (Pt.mk A n c b), (Pt.mk none 0 0 [])]))).map b8).toArray) (.agg ((ptag key b).map b8).toArray) rfl (by rw [c6_mid]) ?_
              refine D_on [6, 7] rfl ?_
              refine D_one 25 _ rfl (by kernel_rfl) rfl (op_call0 (vs := [(.agg (key.map b8).toArray), (.slice (some ⟨g198, 0, none⟩) 1 1)]) (cap := []) (fun w hw => ptag_f key [(Pt.mk A n c b)] (some ⟨g198, 0, none⟩) 1 1 w (hok_cons ((src_full (z := 1) 0 rfl rfl sd sd) w hw) (hok_cons (all_cons ((src_rd 7 rfl) w hw) (all_nil w)) (hok_nil w))) sd sd sd (by first | assumption | omega | (simp only [c6_cons, c6_nil, List.append_nil, List.length_append]; omega) | (simp [c6_cons, c6_nil]; done) | (simp [c6_cons, c6_nil]; omega))) (enters_of Try.func18 (by kernel_rfl) rfl) rfl rfl rfl rfl rfl (fun t201 q202 => ?_))
              refine T_slot 45 (.agg ((ptag key (catp [(Pt.mk A n c b)])).map b8).toArray) (.agg ((ptag key b).map b8).toArray) rfl (by rw [c6_one]) ?_
              refine D_on [6, 7] rfl ?_
              refine D_pure (i := 26) [6, 7] rfl (by kernel_rfl) rfl (pr_eqagg (bo := .eql) (c := ((ptag key b) == (ptag key b))) (r := ((ptag key b) == (ptag key b))) (eqb8 (xs := (ptag key b)) (ys := (ptag key b)) Try.underlying27 Try.underlying5 (by kernel_rfl) sd sd) (by kernel_rfl) rfl rfl rfl rfl rfl) (.inr rfl) rfl rfl ?_
              refine D_pure (i := 27) [6, 7] rfl (by kernel_rfl) rfl (pr_pick_t rfl rfl rfl) (.inr rfl) rfl rfl ?_
              refine D_pure (i := 28) [6, 7] rfl (by kernel_rfl) rfl (pr_assign rfl rfl) (.inr rfl) rfl rfl ?_
              refine D_done (by kernel_rfl) ?_
              exact T_meet () trivial (sc rfl sn) [6, 7] ⟨by decide, rfl⟩
          · skip
            refine id (op_bslice (e := 25) (zs := [(.slice A n c)]) (qs := [(0, (.slice A n c))]) (fun _ => by kernel_rfl) rfl rfl rfl rfl (fun g203 => ?_))
            refine D_on [5, 6] rfl ?_
            refine D_one 20 _ rfl (by kernel_rfl) rfl (op_bslice (e := 25) (zs := [(.slice none 0 0), (.slice A n c), (.slice none 0 0)]) (qs := [(0, (.slice none 0 0)), (1, (.slice A n c)), (2, (.slice none 0 0))]) (fun _ => by kernel_rfl) rfl rfl rfl rfl (fun g204 => ?_))
            refine D_on [6, 7] rfl ?_
            refine D_one 21 _ rfl (by kernel_rfl) rfl (op_call0 (vs := [(.agg (key.map b8).toArray), (.slice (some ⟨g204, 0, none⟩) 3 3)]) (cap := []) (fun w hw => ptag_f key ([(Pt.mk none 0 0 []), (Pt.mk A n c b), (Pt.mk none 0 0 [])]) (some ⟨g204, 0, none⟩) 3 3 w (hok_cons ((src_full (z := 1) 0 rfl rfl sd sd) w hw) (hok_cons (all_cons ((src_nil 1) w hw) (all_cons ((src_rd 7 rfl) w hw) (all_cons ((src_nil 1) w hw) (all_nil w)))) (hok_nil w))) sd sd sd (by first | assumption | omega | (simp only [c6_cons, c6_nil, List.append_nil, List.length_append]; omega) | (simp [c6_cons, c6_nil]; done) | (simp [c6_cons, c6_nil]; omega))) (enters_of Try.func18 (by kernel_rfl) rfl) rfl rfl rfl rfl rfl (fun t205 q206 => ?_))
            refine T_slot 41 (.agg ((ptag key (catp ([(Pt.mk none 0 0 []), (Pt.mk A n c b), (Pt.mk none 0 0 [])]))).map b8).toArray) (.agg ((ptag key b).map b8).toArray) rfl (by rw [c6_mid]) ?_
            refine D_on [6, 7] rfl ?_
            refine D_one 25 _ rfl (by kernel_rfl) rfl (op_call0 (vs := [(.agg (key.map b8).toArray), (.slice (some ⟨g203, 0, none⟩) 1 1)]) (cap := []) (fun w hw => ptag_f key [(Pt.mk A n c b)] (some ⟨g203, 0, none⟩) 1 1 w (hok_cons ((src_full (z := 1) 1 rfl rfl sd sd) w hw) (hok_cons (all_cons ((src_rd 7 rfl) w hw) (all_nil w)) (hok_nil w))) sd sd sd (by first | assumption | omega | (simp only [c6_cons, c6_nil, List.append_nil, List.length_append]; omega) | (simp [c6_cons, c6_nil]; done) | (simp [c6_cons, c6_nil]; omega))) (enters_of Try.func18 (by kernel_rfl) rfl) rfl rfl rfl rfl rfl (fun t207 q208 => ?_))
            refine T_slot 45 (.agg ((ptag key (catp [(Pt.mk A n c b)])).map b8).toArray) (.agg ((ptag key b).map b8).toArray) rfl (by rw [c6_one]) ?_
            refine D_on [6, 7] rfl ?_
            refine D_pure (i := 26) [6, 7] rfl (by kernel_rfl) rfl (pr_eqagg (bo := .eql) (c := ((ptag key b) == (ptag key b))) (r := ((ptag key b) == (ptag key b))) (eqb8 (xs := (ptag key b)) (ys := (ptag key b)) Try.underlying27 Try.underlying5 (by kernel_rfl) sd sd) (by kernel_rfl) rfl rfl rfl rfl rfl) (.inr rfl) rfl rfl ?_
            refine D_pure (i := 27) [6, 7] rfl (by kernel_rfl) rfl (pr_pick_t rfl rfl rfl) (.inr rfl) rfl rfl ?_
            refine D_pure (i := 28) [6, 7] rfl (by kernel_rfl) rfl (pr_assign rfl rfl) (.inr rfl) rfl rfl ?_
            refine D_done (by kernel_rfl) ?_
            exact T_meet () trivial (sc rfl sn) [6, 7] ⟨by decide, rfl⟩
      · skip
        refine id (op_bslice (e := 25) (zs := [(.slice A n c)]) (qs := [(0, (.slice A n c))]) (fun _ => by kernel_rfl) rfl rfl rfl rfl (fun g209 => ?_))
        refine D_on [1, 2] rfl ?_
        refine D_all [5, 8] (by kernel_rfl) (by simp) ⟨⟨_, rfl, rfl, ?_⟩, ⟨_, rfl, rfl, ?_⟩, trivial⟩
        · skip
          refine id (op_slice_rd (l := 0) (u := kk) 2 rfl sd sd Try.underlying25 (by kernel_rfl) rfl rfl rfl ⟨_, rfl⟩ rfl rfl (fun B210 => ?_))
          refine T_as 0 _ (.rd B210 1 kk c ((List.take kk b).map b8)) rfl (by congr 1; simp [List.map_take, List.map_drop] <;> omega) ?_
          refine T_slot 25 _ (.slice B210 kk c) rfl (by congr 1) ?_
          refine D_on [2, 3] rfl ?_
          refine D_one 8 _ rfl (by kernel_rfl) rfl (op_slice_rd (l := kk) (u := n) 3 rfl sd sd Try.underlying25 (by kernel_rfl) rfl rfl ⟨_, rfl⟩ rfl rfl rfl (fun B211 => ?_))
          refine T_as 0 _ (.rd B211 1 (n - kk) (c - kk) ((List.drop kk b).map b8)) rfl (by congr 1; first | rfl | (rw [List.take_of_length_le (by simp; omega)]; simp)) ?_
          refine D_on [3, 4] rfl ?_
          refine D_one 9 _ rfl (by kernel_rfl) rfl (op_bslice (e := 25) (zs := [(.slice B210 kk c), (.slice B211 (n - kk) (c - kk))]) (qs := [(0, (.slice B210 kk c)), (1, (.slice B211 (n - kk) (c - kk)))]) (fun _ => by kernel_rfl) rfl rfl rfl rfl (fun g212 => ?_))
          refine D_on [4, 5] rfl ?_
          refine D_one 10 _ rfl (by kernel_rfl) rfl (op_call0 (vs := [(.agg (key.map b8).toArray), (.slice (some ⟨g212, 0, none⟩) 2 2)]) (cap := []) (fun w hw => ptag_f key [(Pt.mk B210 kk c (List.take kk b)), (Pt.mk B211 (n - kk) (c - kk) (List.drop kk b))] (some ⟨g212, 0, none⟩) 2 2 w (hok_cons ((src_full (z := 1) 0 rfl rfl sd sd) w hw) (hok_cons (all_cons ((src_rd 2 rfl) w hw) (all_cons ((src_rd 1 rfl) w hw) (all_nil w))) (hok_nil w))) sd sd sd (by first | assumption | omega | (simp only [c6_cons, c6_nil, List.append_nil, List.length_append]; omega) | (simp [c6_cons, c6_nil]; done) | (simp [c6_cons, c6_nil]; omega))) (enters_of Try.func18 (by kernel_rfl) rfl) rfl rfl rfl rfl rfl (fun t213 q214 => ?_))
          refine T_slot 30 (.agg ((ptag key (catp [(Pt.mk B210 kk c (List.take kk b)), (Pt.mk B211 (n - kk) (c - kk) (List.drop kk b))])).map b8).toArray) (.agg ((ptag key b).map b8).toArray) rfl (by rw [c6_two]) ?_
          refine D_on [4, 5] rfl ?_
          refine D_one 14 _ rfl (by kernel_rfl) rfl (op_call0 (vs := [(.agg (key.map b8).toArray), (.slice (some ⟨g209, 0, none⟩) 1 1)]) (cap := []) (fun w hw => ptag_f key [(Pt.mk A n c b)] (some ⟨g209, 0, none⟩) 1 1 w (hok_cons ((src_full (z := 1) 3 rfl rfl sd sd) w hw) (hok_cons (all_cons ((src_rd 5 rfl) w hw) (all_nil w)) (hok_nil w))) sd sd sd (by first | assumption | omega | (simp only [c6_cons, c6_nil, List.append_nil, List.length_append]; omega) | (simp [c6_cons, c6_nil]; done) | (simp [c6_cons, c6_nil]; omega))) (enters_of Try.func18 (by kernel_rfl) rfl) rfl rfl rfl rfl rfl (fun t215 q216 => ?_))
          refine T_slot 34 (.agg ((ptag key (catp [(Pt.mk A n c b)])).map b8).toArray) (.agg ((ptag key b).map b8).toArray) rfl (by rw [c6_one]) ?_
          refine D_on [4, 5] rfl ?_
          refine D_pure (i := 15) [4, 5] rfl (by kernel_rfl) rfl (pr_eqagg (bo := .eql) (c := ((ptag key b) == (ptag key b))) (r := ((ptag key b) == (ptag key b))) (eqb8 (xs := (ptag key b)) (ys := (ptag key b)) Try.underlying27 Try.underlying5 (by kernel_rfl) sd sd) (by kernel_rfl) rfl rfl rfl rfl rfl) (.inr rfl) rfl rfl ?_
          refine D_pure (i := 16) [4, 5] rfl (by kernel_rfl) rfl (pr_pick_t rfl rfl rfl) (.inr rfl) rfl rfl ?_
          refine D_pure (i := 17) [4, 5] rfl (by kernel_rfl) rfl (pr_move rfl rfl) (.inr rfl) rfl rfl ?_
          refine T_slot 35 (.bool ((ptag key b) == (ptag key b))) (.bool true) rfl (congrArg _ (by simp)) ?_
          refine T_slot 36 (.bool ((ptag key b) == (ptag key b))) (.bool true) rfl (congrArg _ (by simp)) ?_
          refine T_slot 37 (.bool ((ptag key b) == (ptag key b))) (.bool true) rfl (congrArg _ (by simp)) ?_
          refine D_pure (i := 19) [4, 5] rfl (by kernel_rfl) rfl (pr_move rfl rfl) (.inr rfl) rfl rfl ?_
          refine D_pure (i := 23) [4, 5] rfl (by kernel_rfl) rfl (pr_move rfl rfl) (.inr rfl) rfl rfl ?_
          refine D_take (i := 18) [4, 5] rfl (by kernel_rfl) rfl (ld_agg (ds := (key.map b8)) 0 rfl agg_all Try.underlying22 rfl (by rw [show ((key.map b8)).length = 32 from sd]; kernel_rfl) rfl rfl) rfl rfl rfl ?_
          refine D_take (i := 22) [4, 5] rfl (by kernel_rfl) rfl (ld_agg (ds := (key.map b8)) 0 rfl agg_all Try.underlying22 rfl (by rw [show ((key.map b8)).length = 32 from sd]; kernel_rfl) rfl rfl) rfl rfl rfl ?_
          refine D_all [20, 24] (by kernel_rfl) (by simp) ⟨⟨_, rfl, rfl, ?_⟩, ⟨_, rfl, rfl, ?_⟩, trivial⟩
          · skip
            refine id (op_bslice (e := 25) (zs := [(.slice none 0 0), (.slice A n c), (.slice none 0 0)]) (qs := [(0, (.slice none 0 0)), (1, (.slice A n c)), (2, (.slice none 0 0))]) (fun _ => by kernel_rfl) rfl rfl rfl rfl (fun g217 => ?_))
            refine D_on [5, 6] rfl ?_
            refine D_all [21, 24] (by kernel_rfl) (by simp) ⟨⟨_, rfl, rfl, ?_⟩, ⟨_, rfl, rfl, ?_⟩, trivial⟩
            · skip
              refine id (op_call0 (vs := [(.agg (key.map b8).toArray), (.slice (some ⟨g217, 0, none⟩) 3 3)]) (cap := []) (fun w hw => ptag_f key ([(Pt.mk none 0 0 []), (Pt.mk A n c b), (Pt.mk none 0 0 [])]) (some ⟨g217, 0, none⟩) 3 3 w (hok_cons ((src_full (z := 1) 0 rfl rfl sd sd) w hw) (hok_cons (all_cons ((src_nil 1) w hw) (all_cons ((src_rd 6 rfl) w hw) (all_cons ((src_nil 1) w hw) (all_nil w)))) (hok_nil w))) sd sd sd (by first | assumption | omega | (simp only [c6_cons, c6_nil, List.append_nil, List.length_append]; omega) | (simp [c6_cons, c6_nil]; done) | (simp [c6_cons, c6_nil]; omega))) (enters_of Try.func18 (by kernel_rfl) rfl) rfl rfl rfl rfl rfl (fun t218 q219 => ?_))
              refine T_slot 41 (.agg ((ptag key (catp ([(Pt.mk none 0 0 []), (Pt.mk A n c b), (Pt.mk none 0 0 [])]))).map b8).toArray) (.agg ((ptag key b).map b8).toArray) rfl (by rw [c6_mid]) ?_
              refine D_on [5, 6] rfl ?_
              refine D_one 24 _ rfl (by kernel_rfl) rfl (op_bslice (e := 25) (zs := [(.slice A n c)]) (qs := [(0, (.slice A n c))]) (fun _ => by kernel_rfl) rfl rfl rfl rfl (fun g220 => ?_))
              refine D_on [6, 7] rfl ?_
              refine D_one 25 _ rfl (by kernel_rfl) rfl (op_call0 (vs := [(.agg (key.map b8).toArray), (.slice (some ⟨g220, 0, none⟩) 1 1)]) (cap := []) (fun w hw => ptag_f key [(Pt.mk A n c b)] (some ⟨g220, 0, none⟩) 1 1 w (hok_cons ((src_full (z := 1) 0 rfl rfl sd sd) w hw) (hok_cons (all_cons ((src_rd 7 rfl) w hw) (all_nil w)) (hok_nil w))) sd sd sd (by first | assumption | omega | (simp only [c6_cons, c6_nil, List.append_nil, List.length_append]; omega) | (simp [c6_cons, c6_nil]; done) | (simp [c6_cons, c6_nil]; omega))) (enters_of Try.func18 (by kernel_rfl) rfl) rfl rfl rfl rfl rfl (fun t221 q222 => ?_))
              refine T_slot 45 (.agg ((ptag key (catp [(Pt.mk A n c b)])).map b8).toArray) (.agg ((ptag key b).map b8).toArray) rfl (by rw [c6_one]) ?_
              refine D_on [6, 7] rfl ?_
              refine D_pure (i := 26) [6, 7] rfl (by kernel_rfl) rfl (pr_eqagg (bo := .eql) (c := ((ptag key b) == (ptag key b))) (r := ((ptag key b) == (ptag key b))) (eqb8 (xs := (ptag key b)) (ys := (ptag key b)) Try.underlying27 Try.underlying5 (by kernel_rfl) sd sd) (by kernel_rfl) rfl rfl rfl rfl rfl) (.inr rfl) rfl rfl ?_
              refine D_pure (i := 27) [6, 7] rfl (by kernel_rfl) rfl (pr_pick_t rfl rfl rfl) (.inr rfl) rfl rfl ?_
              refine D_pure (i := 28) [6, 7] rfl (by kernel_rfl) rfl (pr_assign rfl rfl) (.inr rfl) rfl rfl ?_
              refine D_done (by kernel_rfl) ?_
              exact T_meet () trivial (sc rfl sn) [6, 7] ⟨by decide, rfl⟩
            · skip
              refine id (op_bslice (e := 25) (zs := [(.slice A n c)]) (qs := [(0, (.slice A n c))]) (fun _ => by kernel_rfl) rfl rfl rfl rfl (fun g223 => ?_))
              refine D_on [6, 7] rfl ?_
              refine D_one 21 _ rfl (by kernel_rfl) rfl (op_call0 (vs := [(.agg (key.map b8).toArray), (.slice (some ⟨g217, 0, none⟩) 3 3)]) (cap := []) (fun w hw => ptag_f key ([(Pt.mk none 0 0 []), (Pt.mk A n c b), (Pt.mk none 0 0 [])]) (some ⟨g217, 0, none⟩) 3 3 w (hok_cons ((src_full (z := 1) 1 rfl rfl sd sd) w hw) (hok_cons (all_cons ((src_nil 1) w hw) (all_cons ((src_rd 7 rfl) w hw) (all_cons ((src_nil 1) w hw) (all_nil w)))) (hok_nil w))) sd sd sd (by first | assumption | omega | (simp only [c6_cons, c6_nil, List.append_nil, List.length_append]; omega) | (simp [c6_cons, c6_nil]; done) | (simp [c6_cons, c6_nil]; omega))) (enters_of Try.func18 (by kernel_rfl) rfl) rfl rfl rfl rfl rfl (fun t224 q225 => ?_))
              refine T_slot 41 (.agg ((ptag key (catp ([(Pt.mk none 0 0 []), (Pt.mk A n c b), (Pt.mk none 0 0 [])]))).map b8).toArray) (.agg ((ptag key b).map b8).toArray) rfl (by rw [c6_mid]) ?_
              refine D_on [6, 7] rfl ?_
              refine D_one 25 _ rfl (by kernel_rfl) rfl (op_call0 (vs := [(.agg (key.map b8).toArray), (.slice (some ⟨g223, 0, none⟩) 1 1)]) (cap := []) (fun w hw => ptag_f key [(Pt.mk A n c b)] (some ⟨g223, 0, none⟩) 1 1 w (hok_cons ((src_full (z := 1) 0 rfl rfl sd sd) w hw) (hok_cons (all_cons ((src_rd 7 rfl) w hw) (all_nil w)) (hok_nil w))) sd sd sd (by first | assumption | omega | (simp only [c6_cons, c6_nil, List.append_nil, List.length_append]; omega) | (simp [c6_cons, c6_nil]; done) | (simp [c6_cons, c6_nil]; omega))) (enters_of Try.func18 (by kernel_rfl) rfl) rfl rfl rfl rfl rfl (fun t226 q227 => ?_))
              refine T_slot 45 (.agg ((ptag key (catp [(Pt.mk A n c b)])).map b8).toArray) (.agg ((ptag key b).map b8).toArray) rfl (by rw [c6_one]) ?_
              refine D_on [6, 7] rfl ?_
              refine D_pure (i := 26) [6, 7] rfl (by kernel_rfl) rfl (pr_eqagg (bo := .eql) (c := ((ptag key b) == (ptag key b))) (r := ((ptag key b) == (ptag key b))) (eqb8 (xs := (ptag key b)) (ys := (ptag key b)) Try.underlying27 Try.underlying5 (by kernel_rfl) sd sd) (by kernel_rfl) rfl rfl rfl rfl rfl) (.inr rfl) rfl rfl ?_
              refine D_pure (i := 27) [6, 7] rfl (by kernel_rfl) rfl (pr_pick_t rfl rfl rfl) (.inr rfl) rfl rfl ?_
              refine D_pure (i := 28) [6, 7] rfl (by kernel_rfl) rfl (pr_assign rfl rfl) (.inr rfl) rfl rfl ?_
              refine D_done (by kernel_rfl) ?_
              exact T_meet () trivial (sc rfl sn) [6, 7] ⟨by decide, rfl⟩
          · skip
            refine id (op_bslice (e := 25) (zs := [(.slice A n c)]) (qs := [(0, (.slice A n c))]) (fun _ => by kernel_rfl) rfl rfl rfl rfl (fun g228 => ?_))
            refine D_on [5, 6] rfl ?_
            refine D_one 20 _ rfl (by kernel_rfl) rfl (op_bslice (e := 25) (zs := [(.slice none 0 0), (.slice A n c), (.slice none 0 0)]) (qs := [(0, (.slice none 0 0)), (1, (.slice A n c)), (2, (.slice none 0 0))]) (fun _ => by kernel_rfl) rfl rfl rfl rfl (fun g229 => ?_))
            refine D_on [6, 7] rfl ?_
            refine D_one 21 _ rfl (by kernel_rfl) rfl (op_call0 (vs := [(.agg (key.map b8).toArray), (.slice (some ⟨g229, 0, none⟩) 3 3)]) (cap := []) (fun w hw => ptag_f key ([(Pt.mk none 0 0 []), (Pt.mk A n c b), (Pt.mk none 0 0 [])]) (some ⟨g229, 0, none⟩) 3 3 w (hok_cons ((src_full (z := 1) 0 rfl rfl sd sd) w hw) (hok_cons (all_cons ((src_nil 1) w hw) (all_cons ((src_rd 7 rfl) w hw) (all_cons ((src_nil 1) w hw) (all_nil w)))) (hok_nil w))) sd sd sd (by first | assumption | omega | (simp only [c6_cons, c6_nil, List.append_nil, List.length_append]; omega) | (simp [c6_cons, c6_nil]; done) | (simp [c6_cons, c6_nil]; omega))) (enters_of Try.func18 (by kernel_rfl) rfl) rfl rfl rfl rfl rfl (fun t230 q231 => ?_))
            refine T_slot 41 (.agg ((ptag key (catp ([(Pt.mk none 0 0 []), (Pt.mk A n c b), (Pt.mk none 0 0 [])]))).map b8).toArray) (.agg ((ptag key b).map b8).toArray) rfl (by rw [c6_mid]) ?_
            refine D_on [6, 7] rfl ?_
            refine D_one 25 _ rfl (by kernel_rfl) rfl (op_call0 (vs := [(.agg (key.map b8).toArray), (.slice (some ⟨g228, 0, none⟩) 1 1)]) (cap := []) (fun w hw => ptag_f key [(Pt.mk A n c b)] (some ⟨g228, 0, none⟩) 1 1 w (hok_cons ((src_full (z := 1) 1 rfl rfl sd sd) w hw) (hok_cons (all_cons ((src_rd 7 rfl) w hw) (all_nil w)) (hok_nil w))) sd sd sd (by first | assumption | omega | (simp only [c6_cons, c6_nil, List.append_nil, List.length_append]; omega) | (simp [c6_cons, c6_nil]; done) | (simp [c6_cons, c6_nil]; omega))) (enters_of Try.func18 (by kernel_rfl) rfl) rfl rfl rfl rfl rfl (fun t232 q233 => ?_))
            refine T_slot 45 (.agg ((ptag key (catp [(Pt.mk A n c b)])).map b8).toArray) (.agg ((ptag key b).map b8).toArray) rfl (by rw [c6_one]) ?_
            refine D_on [6, 7] rfl ?_
            refine D_pure (i := 26) [6, 7] rfl (by kernel_rfl) rfl (pr_eqagg (bo := .eql) (c := ((ptag key b) == (ptag key b))) (r := ((ptag key b) == (ptag key b))) (eqb8 (xs := (ptag key b)) (ys := (ptag key b)) Try.underlying27 Try.underlying5 (by kernel_rfl) sd sd) (by kernel_rfl) rfl rfl rfl rfl rfl) (.inr rfl) rfl rfl ?_
            refine D_pure (i := 27) [6, 7] rfl (by kernel_rfl) rfl (pr_pick_t rfl rfl rfl) (.inr rfl) rfl rfl ?_
            refine D_pure (i := 28) [6, 7] rfl (by kernel_rfl) rfl (pr_assign rfl rfl) (.inr rfl) rfl rfl ?_
            refine D_done (by kernel_rfl) ?_
            exact T_meet () trivial (sc rfl sn) [6, 7] ⟨by decide, rfl⟩
        · skip
          refine id (op_slice_rd (l := kk) (u := n) 2 rfl sd sd Try.underlying25 (by kernel_rfl) rfl rfl ⟨_, rfl⟩ rfl rfl rfl (fun B234 => ?_))
          refine T_as 0 _ (.rd B234 1 (n - kk) (c - kk) ((List.drop kk b).map b8)) rfl (by congr 1; first | rfl | (rw [List.take_of_length_le (by simp; omega)]; simp)) ?_
          refine D_on [2, 3] rfl ?_
          refine D_one 5 _ rfl (by kernel_rfl) rfl (op_slice_rd (l := 0) (u := kk) 3 rfl sd sd Try.underlying25 (by kernel_rfl) rfl rfl rfl ⟨_, rfl⟩ rfl rfl (fun B235 => ?_))
          refine T_as 0 _ (.rd B235 1 kk c ((List.take kk b).map b8)) rfl (by congr 1; simp [List.map_take, List.map_drop] <;> omega) ?_
          refine T_slot 25 _ (.slice B235 kk c) rfl (by congr 1) ?_
          refine D_on [3, 4] rfl ?_
          refine D_one 9 _ rfl (by kernel_rfl) rfl (op_bslice (e := 25) (zs := [(.slice B235 kk c), (.slice B234 (n - kk) (c - kk))]) (qs := [(0, (.slice B235 kk c)), (1, (.slice B234 (n - kk) (c - kk)))]) (fun _ => by kernel_rfl) rfl rfl rfl rfl (fun g236 => ?_))
          refine D_on [4, 5] rfl ?_
          refine D_one 10 _ rfl (by kernel_rfl) rfl (op_call0 (vs := [(.agg (key.map b8).toArray), (.slice (some ⟨g236, 0, none⟩) 2 2)]) (cap := []) (fun w hw => ptag_f key [(Pt.mk B235 kk c (List.take kk b)), (Pt.mk B234 (n - kk) (c - kk) (List.drop kk b))] (some ⟨g236, 0, none⟩) 2 2 w (hok_cons ((src_full (z := 1) 0 rfl rfl sd sd) w hw) (hok_cons (all_cons ((src_rd 1 rfl) w hw) (all_cons ((src_rd 2 rfl) w hw) (all_nil w))) (hok_nil w))) sd sd sd (by first | assumption | omega | (simp only [c6_cons, c6_nil, List.append_nil, List.length_append]; omega) | (simp [c6_cons, c6_nil]; done) | (simp [c6_cons, c6_nil]; omega))) (enters_of Try.func18 (by kernel_rfl) rfl) rfl rfl rfl rfl rfl (fun t237 q238 => ?_))
          refine T_slot 30 (.agg ((ptag key (catp [(Pt.mk B235 kk c (List.take kk b)), (Pt.mk B234 (n - kk) (c - kk) (List.drop kk b))])).map b8).toArray) (.agg ((ptag key b).map b8).toArray) rfl (by rw [c6_two]) ?_
          refine D_on [4, 5] rfl ?_
          refine D_one 14 _ rfl (by kernel_rfl) rfl (op_call0 (vs := [(.agg (key.map b8).toArray), (.slice (some ⟨g209, 0, none⟩) 1 1)]) (cap := []) (fun w hw => ptag_f key [(Pt.mk A n c b)] (some ⟨g209, 0, none⟩) 1 1 w (hok_cons ((src_full (z := 1) 3 rfl rfl sd sd) w hw) (hok_cons (all_cons ((src_rd 5 rfl) w hw) (all_nil w)) (hok_nil w))) sd sd sd (by first | assumption | omega | (simp only [c6_cons, c6_nil, List.append_nil, List.length_append]; omega) | (simp [c6_cons, c6_nil]; done) | (simp [c6_cons, c6_nil]; omega))) (enters_of Try.func18 (by kernel_rfl) rfl) rfl rfl rfl rfl rfl (fun t239 q240 => ?_))
          refine T_slot 34 (.agg ((ptag key (catp [(Pt.mk A n c b)])).map b8).toArray) (.agg ((ptag key b).map b8).toArray) rfl (by rw [c6_one]) ?_
          refine D_on [4, 5] rfl ?_
          refine D_pure (i := 15) [4, 5] rfl (by kernel_rfl) rfl (pr_eqagg (bo := .eql) (c := ((ptag key b) == (ptag key b))) (r := ((ptag key b) == (ptag key b))) (eqb8 (xs := (ptag key b)) (ys := (ptag key b)) Try.underlying27 Try.underlying5 (by kernel_rfl) sd sd) (by kernel_rfl) rfl rfl rfl rfl rfl) (.inr rfl) rfl rfl ?_
          refine D_pure (i := 16) [4, 5] rfl (by kernel_rfl) rfl (pr_pick_t rfl rfl rfl) (.inr rfl) rfl rfl ?_
          refine D_pure (i := 17) [4, 5] rfl (by kernel_rfl) rfl (pr_move rfl rfl) (.inr rfl) rfl rfl ?_
          refine T_slot 35 (.bool ((ptag key b) == (ptag key b))) (.bool true) rfl (congrArg _ (by simp)) ?_
          refine T_slot 36 (.bool ((ptag key b) == (ptag key b))) (.bool true) rfl (congrArg _ (by simp)) ?_
          refine T_slot 37 (.bool ((ptag key b) == (ptag key b))) (.bool true) rfl (congrArg _ (by simp)) ?_
          refine D_pure (i := 19) [4, 5] rfl (by kernel_rfl) rfl (pr_move rfl rfl) (.inr rfl) rfl rfl ?_
          refine D_pure (i := 23) [4, 5] rfl (by kernel_rfl) rfl (pr_move rfl rfl) (.inr rfl) rfl rfl ?_
          refine D_take (i := 18) [4, 5] rfl (by kernel_rfl) rfl (ld_agg (ds := (key.map b8)) 0 rfl agg_all Try.underlying22 rfl (by rw [show ((key.map b8)).length = 32 from sd]; kernel_rfl) rfl rfl) rfl rfl rfl ?_
          refine D_take (i := 22) [4, 5] rfl (by kernel_rfl) rfl (ld_agg (ds := (key.map b8)) 0 rfl agg_all Try.underlying22 rfl (by rw [show ((key.map b8)).length = 32 from sd]; kernel_rfl) rfl rfl) rfl rfl rfl ?_
          refine D_all [20, 24] (by kernel_rfl) (by simp) ⟨⟨_, rfl, rfl, ?_⟩, ⟨_, rfl, rfl, ?_⟩, trivial⟩
          · skip
            refine id (op_bslice (e := 25) (zs := [(.slice none 0 0), (.slice A n c), (.slice none 0 0)]) (qs := [(0, (.slice none 0 0)), (1, (.slice A n c)), (2, (.slice none 0 0))]) (fun _ => by kernel_rfl) rfl rfl rfl rfl (fun g241 => ?_))
            refine D_on [5, 6] rfl ?_
            refine D_all [21, 24] (by kernel_rfl) (by simp) ⟨⟨_, rfl, rfl, ?_⟩, ⟨_, rfl, rfl, ?_⟩, trivial⟩
            · skip
              refine id (op_call0 (vs := [(.agg (key.map b8).toArray), (.slice (some ⟨g241, 0, none⟩) 3 3)]) (cap := []) (fun w hw => ptag_f key ([(Pt.mk none 0 0 []), (Pt.mk A n c b), (Pt.mk none 0 0 [])]) (some ⟨g241, 0, none⟩) 3 3 w (hok_cons ((src_full (z := 1) 0 rfl rfl sd sd) w hw) (hok_cons (all_cons ((src_nil 1) w hw) (all_cons ((src_rd 6 rfl) w hw) (all_cons ((src_nil 1) w hw) (all_nil w)))) (hok_nil w))) sd sd sd (by first | assumption | omega | (simp only [c6_cons, c6_nil, List.append_nil, List.length_append]; omega) | (simp [c6_cons, c6_nil]; done) | (simp [c6_cons, c6_nil]; omega))) (enters_of Try.func18 (by kernel_rfl) rfl) rfl rfl rfl rfl rfl (fun t242 q243 => ?_))
              refine T_slot 41 (.agg ((ptag key (catp ([(Pt.mk none 0 0 []), (Pt.mk A n c b), (Pt.mk none 0 0 [])]))).map b8).toArray) (.agg ((ptag key b).map b8).toArray) rfl (by rw [c6_mid]) ?_
              refine D_on [5, 6] rfl ?_
              refine D_one 24 _ rfl (by kernel_rfl) rfl (op_bslice (e := 25) (zs := [(.slice A n c)]) (qs := [(0, (.slice A n c))]) (fun _ => by kernel_rfl) rfl rfl rfl rfl (fun g244 => ?_))
              refine D_on [6, 7] rfl ?_
              refine D_one 25 _ rfl (by kernel_rfl) rfl (op_call0 (vs := [(.agg (key.map b8).toArray), (.slice (some ⟨g244, 0, none⟩) 1 1)]) (cap := []) (fun w hw => ptag_f key [(Pt.mk A n c b)] (some ⟨g244, 0, none⟩) 1 1 w (hok_cons ((src_full (z := 1) 0 rfl rfl sd sd) w hw) (hok_cons (all_cons ((src_rd 7 rfl) w hw) (all_nil w)) (hok_nil w))) sd sd sd (by first | assumption | omega | (simp only [c6_cons, c6_nil, List.append_nil, List.length_append]; omega) | (simp [c6_cons, c6_nil]; done) | (simp [c6_cons, c6_nil]; omega))) (enters_of Try.func18 (by kernel_rfl) rfl) rfl rfl rfl rfl rfl (fun t245 q246 => ?_))
              refine T_slot 45 (.agg ((ptag key (catp [(Pt.mk A n c b)])).map b8).toArray) (.agg ((ptag key b).map b8).toArray) rfl (by rw [c6_one]) ?_
              refine D_on [6, 7] rfl ?_
              refine D_pure (i := 26) [6, 7] rfl (by kernel_rfl) rfl (pr_eqagg (bo := .eql) (c := ((ptag key b) == (ptag key b))) (r := ((ptag key b) == (ptag key b))) (eqb8 (xs := (ptag key b)) (ys := (ptag key b)) Try.underlying27 Try.underlying5 (by kernel_rfl) sd sd) (by kernel_rfl) rfl rfl rfl rfl rfl) (.inr rfl) rfl rfl ?_
              refine D_pure (i := 27) [6, 7] rfl (by kernel_rfl) rfl (pr_pick_t rfl rfl rfl) (.inr rfl) rfl rfl ?_
              refine D_pure (i := 28) [6, 7] rfl (by kernel_rfl) rfl (pr_assign rfl rfl) (.inr rfl) rfl rfl ?_
              refine D_done (by kernel_rfl) ?_
              exact T_meet () trivial (sc rfl sn) [6, 7] ⟨by decide, rfl⟩
            · skip
              refine id (op_bslice (e := 25) (zs := [(.slice A n c)]) (qs := [(0, (.slice A n c))]) (fun _ => by kernel_rfl) rfl rfl rfl rfl (fun g247 => ?_))
              refine D_on [6, 7] rfl ?_
              refine D_one 21 _ rfl (by kernel_rfl) rfl (op_call0 (vs := [(.agg (key.map b8).toArray), (.slice (some ⟨g241, 0, none⟩) 3 3)]) (cap := []) (fun w hw => ptag_f key ([(Pt.mk none 0 0 []), (Pt.mk A n c b), (Pt.mk none 0 0 [])]) (some ⟨g241, 0, none⟩) 3 3 w (hok_cons ((src_full (z := 1) 1 rfl rfl sd sd) w hw) (hok_cons (all_cons ((src_nil 1) w hw) (all_cons ((src_rd 7 rfl) w hw) (all_cons ((src_nil 1) w hw) (all_nil w)))) (hok_nil w))) sd sd sd (by first | assumption | omega | (simp only [c6_cons, c6_nil, List.append_nil, List.length_append]; omega) | (simp [c6_cons, c6_nil]; done) | (simp [c6_cons, c6_nil]; omega))) (enters_of Try.func18 (by kernel_rfl) rfl) rfl rfl rfl rfl rfl (fun t248 q249 => ?_))
              refine T_slot 41 (.agg ((ptag key (catp ([(Pt.mk none 0 0 []), (Pt.mk A n c b), (Pt.mk none 0 0 [])]))).map b8).toArray) (.agg ((ptag key b).map b8).toArray) rfl (by rw [c6_mid]) ?_
              refine D_on [6, 7] rfl ?_
              refine D_one 25 _ rfl (by kernel_rfl) rfl (op_call0 (vs := [(.agg (key.map b8).toArray), (.slice (some ⟨g247, 0, none⟩) 1 1)]) (cap := []) (fun w hw => ptag_f key [(Pt.mk A n c b)] (some ⟨g247, 0, none⟩) 1 1 w (hok_cons ((src_full (z := 1) 0 rfl rfl sd sd) w hw) (hok_cons (all_cons ((src_rd 7 rfl) w hw) (all_nil w)) (hok_nil w))) sd sd sd (by first | assumption | omega | (simp only [c6_cons, c6_nil, List.append_nil, List.length_append]; omega) | (simp [c6_cons, c6_nil]; done) | (simp [c6_cons, c6_nil]; omega))) (enters_of Try.func18 (by kernel_rfl) rfl) rfl rfl rfl rfl rfl (fun t250 q251 => ?_))
              refine T_slot 45 (.agg ((ptag key (catp [(Pt.mk A n c b)])).map b8).toArray) (.agg ((ptag key b).map b8).toArray) rfl (by rw [c6_one]) ?_
              refine D_on [6, 7] rfl ?_
              refine D_pure (i := 26) [6, 7] rfl (by kernel_rfl) rfl (pr_eqagg (bo := .eql) (c := ((ptag key b) == (ptag key b))) (r := ((ptag key b) == (ptag key b))) (eqb8 (xs := (ptag key b)) (ys := (ptag key b)) Try.underlying27 Try.underlying5 (by kernel_rfl) sd sd) (by kernel_rfl) rfl rfl rfl rfl rfl) (.inr rfl) rfl rfl ?_
              refine D_pure (i := 27) [6, 7] rfl (by kernel_rfl) rfl (pr_pick_t rfl rfl rfl) (.inr rfl) rfl rfl ?_
              refine D_pure (i := 28) [6, 7] rfl (by kernel_rfl) rfl (pr_assign rfl rfl) (.inr rfl) rfl rfl ?_
              refine D_done (by kernel_rfl) ?_
              exact T_meet () trivial (sc rfl sn) [6, 7] ⟨by decide, rfl⟩
          · skip
            refine id (op_bslice (e := 25) (zs := [(.slice A n c)]) (qs := [(0, (.slice A n c))]) (fun _ => by kernel_rfl) rfl rfl rfl rfl (fun g252 => ?_))
            refine D_on [5, 6] rfl ?_
            refine D_one 20 _ rfl (by kernel_rfl) rfl (op_bslice (e := 25) (zs := [(.slice none 0 0), (.slice A n c), (.slice none 0 0)]) (qs := [(0, (.slice none 0 0)), (1, (.slice A n c)), (2, (.slice none 0 0))]) (fun _ => by kernel_rfl) rfl rfl rfl rfl (fun g253 => ?_))
            refine D_on [6, 7] rfl ?_
            refine D_one 21 _ rfl (by kernel_rfl) rfl (op_call0 (vs := [(.agg (key.map b8).toArray), (.slice (some ⟨g253, 0, none⟩) 3 3)]) (cap := []) (fun w hw => ptag_f key ([(Pt.mk none 0 0 []), (Pt.mk A n c b), (Pt.mk none 0 0 [])]) (some ⟨g253, 0, none⟩) 3 3 w (hok_cons ((src_full (z := 1) 0 rfl rfl sd sd) w hw) (hok_cons (all_cons ((src_nil 1) w hw) (all_cons ((src_rd 7 rfl) w hw) (all_cons ((src_nil 1) w hw) (all_nil w)))) (hok_nil w))) sd sd sd (by first | assumption | omega | (simp only [c6_cons, c6_nil, List.append_nil, List.length_append]; omega) | (simp [c6_cons, c6_nil]; done) | (simp [c6_cons, c6_nil]; omega))) (enters_of Try.func18 (by kernel_rfl) rfl) rfl rfl rfl rfl rfl (fun t254 q255 => ?_))
            refine T_slot 41 (.agg ((ptag key (catp ([(Pt.mk none 0 0 []), (Pt.mk A n c b), (Pt.mk none 0 0 [])]))).map b8).toArray) (.agg ((ptag key b).map b8).toArray) rfl (by rw [c6_mid]) ?_
            refine D_on [6, 7] rfl ?_
            refine D_one 25 _ rfl (by kernel_rfl) rfl (op_call0 (vs := [(.agg (key.map b8).toArray), (.slice (some ⟨g252, 0, none⟩) 1 1)]) (cap := []) (fun w hw => ptag_f key [(Pt.mk A n c b)] (some ⟨g252, 0, none⟩) 1 1 w (hok_cons ((src_full (z := 1) 1 rfl rfl sd sd) w hw) (hok_cons (all_cons ((src_rd 7 rfl) w hw) (all_nil w)) (hok_nil w))) sd sd sd (by first | assumption | omega | (simp only [c6_cons, c6_nil, List.append_nil, List.length_append]; omega) | (simp [c6_cons, c6_nil]; done) | (simp [c6_cons, c6_nil]; omega))) (enters_of Try.func18 (by kernel_rfl) rfl) rfl rfl rfl rfl rfl (fun t256 q257 => ?_))
            refine T_slot 45 (.agg ((ptag key (catp [(Pt.mk A n c b)])).map b8).toArray) (.agg ((ptag key b).map b8).toArray) rfl (by rw [c6_one]) ?_
            refine D_on [6, 7] rfl ?_
            refine D_pure (i := 26) [6, 7] rfl (by kernel_rfl) rfl (pr_eqagg (bo := .eql) (c := ((ptag key b) == (ptag key b))) (r := ((ptag key b) == (ptag key b))) (eqb8 (xs := (ptag key b)) (ys := (ptag key b)) Try.underlying27 Try.underlying5 (by kernel_rfl) sd sd) (by kernel_rfl) rfl rfl rfl rfl rfl) (.inr rfl) rfl rfl ?_
            refine D_pure (i := 27) [6, 7] rfl (by kernel_rfl) rfl (pr_pick_t rfl rfl rfl) (.inr rfl) rfl rfl ?_
            refine D_pure (i := 28) [6, 7] rfl (by kernel_rfl) rfl (pr_assign rfl rfl) (.inr rfl) rfl rfl ?_
            refine D_done (by kernel_rfl) ?_
            exact T_meet () trivial (sc rfl sn) [6, 7] ⟨by decide, rfl⟩
    · rintro ⟨⟩ -
      refine T_re [(6, (.bool ((ptag key b) == (ptag key b))))] (sc rfl sn) ?_
      refine T_he [0, 1] [.blk g1 22 (key.map b8), .rd A 1 n c (b.map b8)] ⟨by decide, rfl⟩ ?_
      refine T_ret ?_
      refine T_slot 6 (.bool ((ptag key b) == (ptag key b))) (.bool true) rfl (by simp) ?_
      exact T_fin () (by first | trivial | omega | (simp; done)) (res1 rfl rfl) [] ⟨by decide, rfl⟩ rfl
end Go.Proofs.Ytemjinkdfjoicaa
