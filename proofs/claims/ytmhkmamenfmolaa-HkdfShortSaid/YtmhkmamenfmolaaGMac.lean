/- What package mac and its reference answer, by facts. Conditions: the key below 10^9, all bytes together below 9 * 10^8. -/
import Derived.Test.YtmhkmamenfmolaaGRef2
import Derived.Test.YtmhkmamenfmolaaMacP
import Derived.Test.YtmhkmamenfmolaaProg
import Derived.Test.YtmhkmamenfmolaaFwU
namespace Go.Proofs.Ytmhkmamenfmolaa
set_option linter.unusedVariables false
set_option linter.unusedSimpArgs false
set_option linter.unnecessarySimpa false
open Go.RowKit Bv Fw

theorem pat_opt (Q : List Pt) (k : Nat) (h : k < Q.length) : Q[k]?.toList = [pat Q k] := by unfold pat; rw [List.getD_eq_getElem?_getD, List.getElem?_eq_getElem h]; rfl

set_option maxHeartbeats 4000000 in
theorem values_seq (Q : List Pt) (A : Option Addr) (n : Nat) (c : Nat) (g1 : Nat) (hq : Q.length = n) (hn : n ≤ 100000000000000) : SeqC (Θ := Unit) Try.prog 51 [(.pointer (some ⟨g1, 0, none⟩))] [.rd (some ⟨g1, 0, none⟩) 1 1 1 [(.slice A n c)], .rd A 1 n c (Q.map Pt.sl), .all Q] n (fun k _ => [(.slice ((pat Q k).A) ((pat Q k).n) ((pat Q k).c))]) (fun k _ => [.rd ((pat Q k).A) 1 ((pat Q k).n) ((pat Q k).c) (((pat Q k).xs).map b8)]) := by
  have hF : Wid Fence.wide := wid_wide
  refine enter_seq (c := _) Try.func51 rfl (by rw [Try.ntmps51]; rfl) rfl ?_
  intro l J Jx W O R hsJ hsX hy hend
  rw [Try.ntmps51]
  refine T_re [(0, (.func (.yield l) #[] #[])), (1, (.pointer (some ⟨g1, 0, none⟩)))] (sc rfl (sc rfl sn)) ?_
  refine T_he [0, 1, 2, 3] [.inv W.heap.size O R (J 0 O R), .rd (some ⟨g1, 0, none⟩) 1 1 1 [(.slice A n c)], .rd A 1 n c (Q.map Pt.sl), .all Q] ⟨by decide, rfl⟩ ?_
  refine T_seq ?_
  refine T_reg hF rfl ?_
  refine L_op rfl (op_ld (ld_rdb (src_rd 1 rfl) rfl Try.underlying22 rfl rfl rfl) rfl rfl ?_)
  refine L_op rfl (op_pr (pr_len_sl Try.underlying22 rfl rfl) rfl rfl ?_)
  refine L_op rfl (op_pr (pr_move rfl rfl) rfl rfl ?_)
  refine L_nil ?_
  refine T_re [(0, (.func (.yield l) #[] #[])), (5, (.slice A n c)), (6, (.int .i64 ((n : Nat) : Int))), (7, (.int .i64 ((0 : Nat) : Int)))] (sc rfl (sc rfl (sc rfl (sc rfl sn)))) ?_
  refine T_he [0, 1, 2, 3] [.inv W.heap.size O R (J 0 O R), .rd (some ⟨g1, 0, none⟩) 1 1 1 [(.slice A n c)], .rd A 1 n c (Q.map Pt.sl), .all Q] ⟨by decide, rfl⟩ ?_
  refine T_block ?_
  refine T_loop (T := Nat × List Nat × List Nat) (fun ⟨k, O, R⟩ => k ≤ n) (fun ⟨k, O, R⟩ => [(0, (.func (.yield l) #[] #[])), (5, (.slice A n c)), (6, (.int .i64 ((n : Nat) : Int))), (7, (.int .i64 ((k : Nat) : Int)))]) (fun ⟨k, O, R⟩ => [.inv W.heap.size O R (J k O R), .rd (some ⟨g1, 0, none⟩) 1 1 1 [(.slice A n c)], .rd A 1 n c (Q.map Pt.sl), .all Q]) (fun ⟨k, O, R⟩ => n - k) (0, O, R) (by first | trivial | ((try dsimp only); first | omega | (refine ⟨?_, ?_⟩ <;> omega) | (refine ⟨?_, ?_, ?_⟩ <;> omega) | (simp; done) | (simp; omega))) (sc rfl (sc rfl (sc rfl (sc rfl sn)))) [0, 1, 2, 3] ⟨by decide, rfl⟩ ?_
  rintro ⟨k, O, R⟩ hp
  have hp : k ≤ n := hp
  refine T_re [(0, (.func (.yield l) #[] #[])), (5, (.slice A n c)), (6, (.int .i64 ((n : Nat) : Int))), (7, (.int .i64 ((k : Nat) : Int)))] (sc rfl (sc rfl (sc rfl (sc rfl sn)))) ?_
  refine T_he [0, 1, 2, 3] [.inv W.heap.size O R (J k O R), .rd (some ⟨g1, 0, none⟩) 1 1 1 [(.slice A n c)], .rd A 1 n c (Q.map Pt.sl), .all Q] ⟨by decide, rfl⟩ ?_
  refine T_seq ?_
  refine T_reg hF rfl ?_
  refine L_op rfl (op_pr (pr_cmp (bo := .lss) (nc_lt (a := k) (b := n)) rfl rfl rfl rfl) rfl rfl ?_)
  refine L_nil ?_
  refine T_re [(0, (.func (.yield l) #[] #[])), (5, (.slice A n c)), (6, (.int .i64 ((n : Nat) : Int))), (7, (.int .i64 ((k : Nat) : Int))), (8, (.bool (decide (k < n))))] (sc rfl (sc rfl (sc rfl (sc rfl (sc rfl sn))))) ?_
  refine T_he [0, 1, 2, 3] [.inv W.heap.size O R (J k O R), .rd (some ⟨g1, 0, none⟩) 1 1 1 [(.slice A n c)], .rd A 1 n c (Q.map Pt.sl), .all Q] ⟨by decide, rfl⟩ ?_
  refine T_seq ?_
  refine T_cond (decide (k < n)) rfl (fun hc_1 => ?_) (fun hc_1 => ?_)
  · skip
    have hc_1 := of_decide_eq_true hc_1
    refine T_skip ?_
    refine T_seq ?_
    refine T_block ?_
    refine T_seq ?_
    refine T_reg hF rfl ?_
    refine L_op rfl (op_pr (pr_ixs1 (j := k) (src_none (src_rd 2 rfl)) sd Try.underlying22 (by kernel_rfl) rfl rfl rfl) rfl rfl ?_)
    refine L_op rfl (op_ld (ld_src (m := k) (src_rd 2 rfl) (pat_get sd) Try.underlying24 rfl rfl rfl) rfl rfl ?_)
    refine T_ofall 3 rfl (pat_mem (L := Q) (j := k) sd) (fun hl_2 hm_3 => ?_)
    refine L_op rfl (op_pr (pr_assign rfl rfl) rfl rfl ?_)
    refine L_nil ?_
    refine T_re [(0, (.func (.yield l) #[] #[])), (4, (.slice ((pat Q k).A) ((pat Q k).n) ((pat Q k).c))), (5, (.slice A n c)), (6, (.int .i64 ((n : Nat) : Int))), (7, (.int .i64 ((k : Nat) : Int)))] (sc rfl (sc rfl (sc rfl (sc rfl (sc rfl sn))))) ?_
    refine T_he [0, 1, 2, 3, 4] [.rd ((pat Q k).A) 1 ((pat Q k).n) ((pat Q k).c) (((pat Q k).xs).map b8), .inv W.heap.size O R (J k O R), .rd (some ⟨g1, 0, none⟩) 1 1 1 [(.slice A n c)], .rd A 1 n c (Q.map Pt.sl), .all Q] ⟨by decide, rfl⟩ ?_
    refine T_seq ?_
    refine T_regI ?_
    refine LI_opP hF rfl rfl (op_pr (pr_move rfl rfl) rfl rfl ?_)
    refine LI_opP hF rfl rfl (op_pr (pr_move rfl rfl) rfl rfl ?_)
    refine LI_op rfl (op_yield (k := k) () hy sd hsJ hsX 1 rfl [0] rfl rfl rfl rfl rfl rfl rfl rfl rfl (fun _ => trivial) (fun O4 R5 => ?_) (fun O6 R7 => ?_))
    · skip
      refine LI_opP hF rfl rfl (op_pr (pr_un (v := .bool false) rfl rfl rfl) rfl rfl ?_)
      refine LI_nil ?_
      refine T_re [(0, (.func (.yield l) #[] #[])), (5, (.slice A n c)), (6, (.int .i64 ((n : Nat) : Int))), (7, (.int .i64 ((k : Nat) : Int))), (14, (.bool false))] (sc rfl (sc rfl (sc rfl (sc rfl (sc rfl sn))))) ?_
      refine T_he [0, 1, 2, 3, 4] [.inv W.heap.size O4 R5 (J (k + 1) O4 R5), .rd ((pat Q k).A) 1 ((pat Q k).n) ((pat Q k).c) (((pat Q k).xs).map b8), .rd (some ⟨g1, 0, none⟩) 1 1 1 [(.slice A n c)], .rd A 1 n c (Q.map Pt.sl), .all Q] ⟨by decide, rfl⟩ ?_
      refine T_cond_f rfl ?_
      refine T_skip ?_
      refine T_reg hF rfl ?_
      refine L_op rfl (op_pr (pr_add (na_i64 (a := k) (b := 1) sd) rfl rfl rfl) rfl rfl ?_)
      refine L_op rfl (op_pr (pr_move rfl rfl) rfl rfl ?_)
      refine L_nil ?_
      refine T_re [(0, (.func (.yield l) #[] #[])), (5, (.slice A n c)), (6, (.int .i64 ((n : Nat) : Int))), (7, (.int .i64 ((k + 1 : Nat) : Int)))] (sc rfl (sc rfl (sc rfl (sc rfl sn)))) ?_
      refine T_he [0, 1, 2, 3, 4] [.inv W.heap.size O4 R5 (J (k + 1) O4 R5), .rd ((pat Q k).A) 1 ((pat Q k).n) ((pat Q k).c) (((pat Q k).xs).map b8), .rd (some ⟨g1, 0, none⟩) 1 1 1 [(.slice A n c)], .rd A 1 n c (Q.map Pt.sl), .all Q] ⟨by decide, rfl⟩ ?_
      exact T_again (k + 1, O4, R5) (by first | trivial | ((try dsimp only); first | omega | (refine ⟨?_, ?_⟩ <;> omega) | (refine ⟨?_, ?_, ?_⟩ <;> omega) | (simp; done) | (simp; omega))) (by first | trivial | ((try dsimp only); first | omega | (refine ⟨?_, ?_⟩ <;> omega) | (refine ⟨?_, ?_, ?_⟩ <;> omega) | (simp; done) | (simp; omega))) (sc rfl (sc rfl (sc rfl (sc rfl sn)))) [0, 2, 3, 4] ⟨by decide, rfl⟩
    · skip
      refine LI_opP hF rfl rfl (op_pr (pr_un (v := .bool true) rfl rfl rfl) rfl rfl ?_)
      refine LI_nil ?_
      refine T_re [(0, (.func (.yield l) #[] #[])), (5, (.slice A n c)), (6, (.int .i64 ((n : Nat) : Int))), (7, (.int .i64 ((k : Nat) : Int))), (14, (.bool true))] (sc rfl (sc rfl (sc rfl (sc rfl (sc rfl sn))))) ?_
      refine T_he [0, 1, 2, 3, 4] [.inv W.heap.size O6 R7 (Jx O6 R7), .rd ((pat Q k).A) 1 ((pat Q k).n) ((pat Q k).c) (((pat Q k).xs).map b8), .rd (some ⟨g1, 0, none⟩) 1 1 1 [(.slice A n c)], .rd A 1 n c (Q.map Pt.sl), .all Q] ⟨by decide, rfl⟩ ?_
      refine T_cond_t rfl ?_
      refine T_ret ?_
      exact T_finX rfl rfl 0 rfl
  · skip
    have hc_1 := of_decide_eq_false hc_1
    refine T_exit rfl ?_
    obtain rfl : k = n := by omega
    exact T_finJ rfl rfl 0 rfl
set_option maxHeartbeats 4000000 in
theorem values_f (A : Option Addr) (n : Nat) (c : Nat) (w : World) (hO : HOK [] w)  : Calls Try.prog 43 [(.slice A n c)].toArray w (Ret (T := Nat) [] w (fun g1 => True) (fun g1 => (.func (.func 51) #[] [(.pointer (some ⟨g1, 0, none⟩))].toArray)) (fun g1 => [.old (some ⟨g1, 0, none⟩) 1 1 1 [(.slice A n c)]])) := by
  have hF : Wid Fence.wide := wid_wide
  refine enter (c := _) Try.func43 rfl [] [(.slice A n c)] [] (by rw [Try.ntmps43]; rfl) (own_rds hO rfl) ?_
  rw [Try.ntmps43]
  refine T_re [(0, (.slice A n c))] (sc rfl sn) ?_
  refine T_he [] [] ⟨by decide, rfl⟩ ?_
  refine T_seq ?_
  refine T_reg hF rfl ?_
  refine L_op rfl (op_box (zs := [(.slice A n c)]) rfl rfl rfl rfl rfl (fun g1 => ?_))
  refine L_op rfl (op_pr (pr_assign rfl rfl) rfl rfl ?_)
  refine L_nil ?_
  refine T_re [(1, (.pointer (some ⟨g1, 0, none⟩)))] (sc rfl sn) ?_
  refine T_he [0] [.blk g1 22 [(.slice A n c)]] ⟨by decide, rfl⟩ ?_
  refine T_seq ?_
  refine T_reg hF rfl ?_
  refine L_op rfl (op_pr (pr_mkfn (us := []) (vs := [(.pointer (some ⟨g1, 0, none⟩))]) rfl rfl rfl) rfl rfl ?_)
  refine L_op rfl (op_pr (pr_assign rfl rfl) rfl rfl ?_)
  refine L_nil ?_
  refine T_re [(2, (.func (.func 51) #[] [(.pointer (some ⟨g1, 0, none⟩))].toArray))] (sc rfl sn) ?_
  refine T_he [0] [.blk g1 22 [(.slice A n c)]] ⟨by decide, rfl⟩ ?_
  refine T_ret ?_
  refine T_oldb 0 (zs := [(.slice A n c)]) 0 1 1 1 rfl rfl rfl sd sd ?_
  exact T_fin g1 (by first | trivial | omega | (simp; done)) (res1 rfl rfl) [0] ⟨by decide, rfl⟩ rfl
set_option maxHeartbeats 4000000 in
theorem turned_f (k : List (BitVec 8)) (x : BitVec 8) (A : Option Addr) (n : Nat) (c : Nat) (w : World) (hO : HOK [.rd A 1 n c (k.map b8)] w) (hk : k.length = n) (hn : n ≤ 64) : Calls Try.prog 42 [(.slice A n c), (b8 x)].toArray w (Ret (T := Option Addr) [] w (fun B => True) (fun B => (.slice B 64 64)) (fun B => [.old B 1 64 64 ((hpad k x).map b8)])) := by
  have hpl := hpad_len k x
  have hF : Wid Fence.wide := wid_wide
  refine enter (c := _) Try.func42 rfl [] [(.slice A n c), (b8 x)] [.rd A 1 n c (k.map b8)] (by rw [Try.ntmps42]; rfl) (own_rds hO rfl) ?_
  rw [Try.ntmps42]
  refine T_re [(0, (.slice A n c)), (1, (b8 x))] (sc rfl (sc rfl sn)) ?_
  refine T_he [0] [.rd A 1 n c (k.map b8)] ⟨by decide, rfl⟩ ?_
  refine T_seq ?_
  refine T_reg hF rfl ?_
  refine L_op rfl (op_pr (pr_assign rfl rfl) rfl rfl ?_)
  refine L_nil ?_
  refine T_re [(0, (.slice A n c)), (1, (b8 x))] (sc rfl (sc rfl sn)) ?_
  refine T_he [0] [.rd A 1 n c (k.map b8)] ⟨by decide, rfl⟩ ?_
  refine T_seq ?_
  refine T_reg hF rfl ?_
  refine L_op rfl (op_make (z := (b8 (0#8))) (n := 64) (c := 64) Try.underlying24 (bytes := 1) (by kernel_rfl) rfl sd sd sd rfl rfl rfl rfl rfl (fun g1 => ?_))
  refine T_as 0 _ (.blk g1 5 ((List.replicate 64 0#8).map b8)) rfl (by rw [List.map_replicate]) ?_
  refine L_op rfl (op_pr (pr_assign rfl rfl) rfl rfl ?_)
  refine L_nil ?_
  refine T_re [(0, (.slice A n c)), (1, (b8 x)), (5, (.slice (some ⟨g1, 0, none⟩) 64 64))] (sc rfl (sc rfl (sc rfl sn))) ?_
  refine T_he [0, 1] [.blk g1 5 ((List.replicate 64 0#8).map b8), .rd A 1 n c (k.map b8)] ⟨by decide, rfl⟩ ?_
  refine T_seq ?_
  refine T_reg hF rfl ?_
  refine L_op rfl (op_pr (pr_move rfl rfl) rfl rfl ?_)
  refine L_op rfl (op_pr (pr_move rfl rfl) rfl rfl ?_)
  refine L_op rfl (op_copy (cs' := ((cop (List.replicate 64 0#8) 0 k (min n 64)).map b8)) 0 rfl Try.underlying24 (by kernel_rfl) (src_rd 1 rfl) (all8_one _) sd (cop_map _ _ _ _) rfl rfl rfl rfl rfl ?_)
  refine L_nil ?_
  refine T_re [(1, (b8 x)), (5, (.slice (some ⟨g1, 0, none⟩) 64 64))] (sc rfl (sc rfl sn)) ?_
  refine T_he [0, 1] [.blk g1 5 ((cop (List.replicate 64 0#8) 0 k (min n 64)).map b8), .rd A 1 n c (k.map b8)] ⟨by decide, rfl⟩ ?_
  refine T_seq ?_
  refine T_seq ?_
  refine T_reg hF rfl ?_
  refine L_op rfl (op_pr (pr_move rfl rfl) rfl rfl ?_)
  refine L_op rfl (op_pr (pr_len_sl Try.underlying24 rfl rfl) rfl rfl ?_)
  refine L_op rfl (op_pr (pr_move rfl rfl) rfl rfl ?_)
  refine L_nil ?_
  refine T_re [(1, (b8 x)), (5, (.slice (some ⟨g1, 0, none⟩) 64 64)), (12, (.int .i64 ((64 : Nat) : Int))), (13, (.int .i64 ((0 : Nat) : Int)))] (sc rfl (sc rfl (sc rfl (sc rfl sn)))) ?_
  refine T_he [0, 1] [.blk g1 5 ((cop (List.replicate 64 0#8) 0 k (min n 64)).map b8), .rd A 1 n c (k.map b8)] ⟨by decide, rfl⟩ ?_
  refine T_block ?_
  refine T_as 0 (.blk g1 5 ((cop (List.replicate 64 0#8) 0 k (min n 64)).map b8)) (.blk g1 5 ((htn k x 0).map b8)) rfl (by rw [htn_zero k x n _ hk hn (by omega)]) ?_
  refine T_loop (T := Nat) (fun i => i ≤ 64) (fun i => [(1, (b8 x)), (5, (.slice (some ⟨g1, 0, none⟩) 64 64)), (12, (.int .i64 ((64 : Nat) : Int))), (13, (.int .i64 ((i : Nat) : Int)))]) (fun i => [.blk g1 5 ((htn k x i).map b8), .rd A 1 n c (k.map b8)]) (fun i => 64 - i) 0 (by first | trivial | ((try dsimp only); first | omega | (refine ⟨?_, ?_⟩ <;> omega) | (refine ⟨?_, ?_, ?_⟩ <;> omega) | (simp; done) | (simp; omega))) (sc rfl (sc rfl (sc rfl (sc rfl sn)))) [0, 1] ⟨by decide, rfl⟩ ?_
  rintro i hp
  have hp : i ≤ 64 := hp
  have hhl := htn_len k x i
  refine T_re [(1, (b8 x)), (5, (.slice (some ⟨g1, 0, none⟩) 64 64)), (12, (.int .i64 ((64 : Nat) : Int))), (13, (.int .i64 ((i : Nat) : Int)))] (sc rfl (sc rfl (sc rfl (sc rfl sn)))) ?_
  refine T_he [0, 1] [.blk g1 5 ((htn k x i).map b8), .rd A 1 n c (k.map b8)] ⟨by decide, rfl⟩ ?_
  refine T_seq ?_
  refine T_reg hF rfl ?_
  refine L_op rfl (op_pr (pr_cmp (bo := .lss) (nc_lt (a := i) (b := 64)) rfl rfl rfl rfl) rfl rfl ?_)
  refine L_nil ?_
  refine T_re [(1, (b8 x)), (5, (.slice (some ⟨g1, 0, none⟩) 64 64)), (12, (.int .i64 ((64 : Nat) : Int))), (13, (.int .i64 ((i : Nat) : Int))), (14, (.bool (decide (i < 64))))] (sc rfl (sc rfl (sc rfl (sc rfl (sc rfl sn))))) ?_
  refine T_he [0, 1] [.blk g1 5 ((htn k x i).map b8), .rd A 1 n c (k.map b8)] ⟨by decide, rfl⟩ ?_
  refine T_seq ?_
  refine T_cond (decide (i < 64)) rfl (fun hc_2 => ?_) (fun hc_2 => ?_)
  · skip
    have hc_2 := of_decide_eq_true hc_2
    refine T_skip ?_
    refine T_seq ?_
    refine T_block ?_
    refine T_seq ?_
    refine T_reg hF rfl ?_
    refine L_op rfl (op_pr (pr_move rfl rfl) rfl rfl ?_)
    refine L_op rfl (op_pr (pr_assign rfl rfl) rfl rfl ?_)
    refine L_nil ?_
    refine T_re [(1, (b8 x)), (5, (.slice (some ⟨g1, 0, none⟩) 64 64)), (6, (.int .i64 ((i : Nat) : Int))), (12, (.int .i64 ((64 : Nat) : Int))), (13, (.int .i64 ((i : Nat) : Int)))] (sc rfl (sc rfl (sc rfl (sc rfl (sc rfl sn))))) ?_
    refine T_he [0, 1] [.blk g1 5 ((htn k x i).map b8), .rd A 1 n c (k.map b8)] ⟨by decide, rfl⟩ ?_
    refine T_reg hF rfl ?_
    refine L_op rfl (op_pr (pr_move rfl rfl) rfl rfl ?_)
    refine L_op rfl (op_pr (pr_move rfl rfl) rfl rfl ?_)
    refine L_op rfl (op_pr (pr_ixb (j := i) (m' := i) sd (by omega) Try.underlying24 (z := 1) (by kernel_rfl) rfl rfl rfl) rfl rfl ?_)
    refine L_op rfl (op_ld (ld_blk 0 rfl (get8 sd) Try.underlying5 rfl rfl rfl) rfl rfl ?_)
    refine L_op rfl (op_pr (pr_move rfl rfl) rfl rfl ?_)
    refine L_op rfl (op_pr (pr_xor (ib_xor8 _ _) rfl rfl rfl) rfl rfl ?_)
    refine L_op rfl (op_pr (pr_ixb (j := i) (m' := i) sd (by omega) Try.underlying24 (z := 1) (by kernel_rfl) rfl rfl rfl) rfl rfl ?_)
    refine L_op rfl (op_store (vs := [(b8 ((ath (htn k x i) i) ^^^ x))]) (cs' := ((List.set (htn k x i) i ((ath (htn k x i) i) ^^^ x)).map b8)) 0 rfl rfl (by kernel_rfl) (one_one rfl) (by have : i < ((htn k x i)).length := sd; simp only [List.length_map, List.length_singleton]; omega) (splice_map (f := b8) sd) rfl rfl rfl rfl ?_)
    refine L_nil ?_
    refine T_re [(1, (b8 x)), (5, (.slice (some ⟨g1, 0, none⟩) 64 64)), (12, (.int .i64 ((64 : Nat) : Int))), (13, (.int .i64 ((i : Nat) : Int)))] (sc rfl (sc rfl (sc rfl (sc rfl sn)))) ?_
    refine T_he [0, 1] [.blk g1 5 ((List.set (htn k x i) i ((ath (htn k x i) i) ^^^ x)).map b8), .rd A 1 n c (k.map b8)] ⟨by decide, rfl⟩ ?_
    refine T_reg hF rfl ?_
    refine L_op rfl (op_pr (pr_add (na_i64 (a := i) (b := 1) sd) rfl rfl rfl) rfl rfl ?_)
    refine L_op rfl (op_pr (pr_move rfl rfl) rfl rfl ?_)
    refine L_nil ?_
    refine T_re [(1, (b8 x)), (5, (.slice (some ⟨g1, 0, none⟩) 64 64)), (12, (.int .i64 ((64 : Nat) : Int))), (13, (.int .i64 ((i + 1 : Nat) : Int)))] (sc rfl (sc rfl (sc rfl (sc rfl sn)))) ?_
    refine T_he [0, 1] [.blk g1 5 ((List.set (htn k x i) i ((ath (htn k x i) i) ^^^ x)).map b8), .rd A 1 n c (k.map b8)] ⟨by decide, rfl⟩ ?_
    refine T_as 0 (.blk g1 5 ((List.set (htn k x i) i ((ath (htn k x i) i) ^^^ x)).map b8)) (.blk g1 5 ((htn k x (i + 1)).map b8)) rfl (by rw [htn_set k x i (by omega)]) ?_
    exact T_again (i + 1) (by first | trivial | ((try dsimp only); first | omega | (refine ⟨?_, ?_⟩ <;> omega) | (refine ⟨?_, ?_, ?_⟩ <;> omega) | (simp; done) | (simp; omega))) (by first | trivial | ((try dsimp only); first | omega | (refine ⟨?_, ?_⟩ <;> omega) | (refine ⟨?_, ?_, ?_⟩ <;> omega) | (simp; done) | (simp; omega))) (sc rfl (sc rfl (sc rfl (sc rfl sn)))) [0, 1] ⟨by decide, rfl⟩
  · skip
    have hc_2 := of_decide_eq_false hc_2
    refine T_exit rfl ?_
    obtain rfl : 64 = i := by omega
    refine T_seq ?_
    refine T_reg hF rfl ?_
    refine L_op rfl (op_pr (pr_move rfl rfl) rfl rfl ?_)
    refine L_op rfl (op_pr (pr_assign rfl rfl) rfl rfl ?_)
    refine L_nil ?_
    refine T_re [(4, (.slice (some ⟨g1, 0, none⟩) 64 64))] (sc rfl sn) ?_
    refine T_he [0, 1] [.blk g1 5 ((htn k x 64).map b8), .rd A 1 n c (k.map b8)] ⟨by decide, rfl⟩ ?_
    refine T_ret ?_
    refine T_oldb 0 (zs := ((hpad k x).map b8)) 0 1 64 64 rfl sd (by rw [htn_all, List.drop_zero, List.take_of_length_le (by simp; omega)]) sd sd ?_
    exact T_fin (some ⟨g1, 0, none⟩) (by first | trivial | omega | (simp; done)) (res1 rfl rfl) [0] ⟨by decide, rfl⟩ rfl
theorem catp_app (L M : List Pt) : catp (L ++ M) = catp L ++ catp M := by simp [catp]

set_option maxHeartbeats 4000000 in
theorem tag_s_f (xs : List (BitVec 8)) (A : Option Addr) (n : Nat) (c : Nat) (Q : List Pt) (B : Option Addr) (nq : Nat) (d : Nat) (w : World) (hO : HOK [.rd A 1 n c (xs.map b8), .rd B 1 nq d (Q.map Pt.sl), .all Q] w) (hx : xs.length = n) (hn : n ≤ 64) (hQ : Q.length = nq) (hm : nq ≤ 100000000) (hs : (catp Q).length ≤ 900000000) : Calls Try.prog 27 [(.slice A n c), (.slice B nq d)].toArray w (Ret (T := Unit) [] w (fun _ => True) (fun _ => (.agg ((mactag xs (catp Q)).map b8).toArray)) (fun _ => [])) := by
  have hsl := shasum_len xs
  have hs1 := shasum_len (hpad xs 54#8 ++ catp Q)
  have hs2 := shasum_len (hpad xs 92#8 ++ (shasum (hpad xs 54#8 ++ catp Q)))
  have hp1 := hpad_len xs 54#8
  have hp2 := hpad_len xs 92#8
  have hml := mactag_len xs (catp Q)
  have hcl : (catp ([Pt.mk none 0 0 (hpad xs 54#8)] ++ Q)).length = 64 + (catp Q).length := by rw [catp_app, List.length_append, catp_cons, catp_nil, List.append_nil, hp1]
  have hF : Wid Fence.wide := wid_wide
  refine enter_m (c := _) Try.func27 rfl [] [(.slice A n c), (.slice B nq d)] [.rd A 1 n c (xs.map b8), .rd B 1 nq d (Q.map Pt.sl), .all Q] (by rw [Try.ntmps27]; rfl) (own_rds hO rfl) ?_
  rw [Try.ntmps27]
  refine T_re [(0, (.slice A n c)), (1, (.slice B nq d))] (sc rfl (sc rfl sn)) ?_
  refine T_he [0, 1, 2] [.rd A 1 n c (xs.map b8), .rd B 1 nq d (Q.map Pt.sl), .all Q] ⟨by decide, rfl⟩ ?_
  refine T_seq ?_
  refine T_reg hF rfl ?_
  refine L_op rfl (op_alloc (z := .agg ((List.replicate 32 0#8).map b8).toArray) (zs := ((List.replicate 32 0#8).map b8)) (by kernel_rfl) rfl rfl rfl rfl (fun g1 => ?_))
  refine L_nil ?_
  refine T_re [(0, (.slice A n c)), (1, (.slice B nq d)), (4, (.pointer (some ⟨g1, 0, none⟩)))] (sc rfl (sc rfl (sc rfl sn))) ?_
  refine T_he [0, 1, 2, 3] [.blk g1 26 ((List.replicate 32 0#8).map b8), .rd A 1 n c (xs.map b8), .rd B 1 nq d (Q.map Pt.sl), .all Q] ⟨by decide, rfl⟩ ?_
  refine T_seq ?_
  refine T_seq ?_
  refine T_reg hF rfl ?_
  refine L_op rfl (op_pr (pr_move rfl rfl) rfl rfl ?_)
  refine L_op rfl (op_pr (pr_len_sl Try.underlying24 rfl rfl) rfl rfl ?_)
  refine L_op rfl (op_pr (pr_cmp (bo := .gtr) (nc_lt (a := 64) (b := n)) rfl rfl rfl rfl) rfl rfl ?_)
  refine L_nil ?_
  refine T_re [(0, (.slice A n c)), (1, (.slice B nq d)), (4, (.pointer (some ⟨g1, 0, none⟩))), (11, (.bool (decide (64 < n))))] (sc rfl (sc rfl (sc rfl (sc rfl sn)))) ?_
  refine T_he [0, 1, 2, 3] [.blk g1 26 ((List.replicate 32 0#8).map b8), .rd A 1 n c (xs.map b8), .rd B 1 nq d (Q.map Pt.sl), .all Q] ⟨by decide, rfl⟩ ?_
  refine T_cond_no (t := decide (64 < n)) rfl (by simp; omega) ?_
  refine T_skip ?_
  refine T_seq ?_
  refine T_reg hF rfl ?_
  refine L_op rfl (op_pr (pr_move rfl rfl) rfl rfl ?_)
  refine L_op rfl (op_call0 (vs := [(.slice A n c), (b8 (54#8))]) (cap := []) (fun w hw => turned_f xs (54#8) A n c w (hok_cons ((src_rd 1 rfl) w hw) (hok_nil w)) sd sd) (enters_of Try.func42 (by kernel_rfl) rfl) rfl rfl rfl rfl rfl (fun t2 q3 => ?_))
  obtain ⟨B4, eB4⟩ : ∃ x, x = t2 := ⟨_, rfl⟩
  subst eB4
  refine L_op rfl (op_bslice (e := 24) (zs := [(.slice B4 64 64)]) (qs := [(0, (.slice B4 64 64))]) (fun _ => by kernel_rfl) rfl rfl rfl rfl (fun g5 => ?_))
  refine L_op rfl (op_alloc (z := (.slice none 0 0)) (zs := [(.slice none 0 0)]) (by kernel_rfl) rfl rfl rfl rfl (fun g6 => ?_))
  refine L_op rfl (op_store (vs := [(.slice (some ⟨g5, 0, none⟩) 1 1)]) (cs' := [(.slice (some ⟨g5, 0, none⟩) 1 1)]) 0 rfl rfl (by kernel_rfl) (one_one rfl) (by first | decide | simp | exact Nat.le_refl _) rfl rfl rfl rfl rfl ?_)
  refine L_nil ?_
  refine T_re [(0, (.slice A n c)), (1, (.slice B nq d)), (4, (.pointer (some ⟨g1, 0, none⟩))), (6, (.pointer (some ⟨g6, 0, none⟩)))] (sc rfl (sc rfl (sc rfl (sc rfl sn)))) ?_
  refine T_he [0, 1, 2, 3, 4, 5, 6] [.blk g6 22 [(.slice (some ⟨g5, 0, none⟩) 1 1)], .blk g5 24 [(.slice B4 64 64)], .old B4 1 64 64 ((hpad xs (54#8)).map b8), .blk g1 26 ((List.replicate 32 0#8).map b8), .rd A 1 n c (xs.map b8), .rd B 1 nq d (Q.map Pt.sl), .all Q] ⟨by decide, rfl⟩ ?_
  refine T_seq ?_
  refine T_seq ?_
  refine T_reg hF rfl ?_
  refine L_op rfl (op_pr (pr_move rfl rfl) rfl rfl ?_)
  refine L_op rfl (op_call0 (vs := [(.slice B nq d)]) (cap := []) (fun w hw => values_f B nq d w (hok_nil w) ) (enters_of Try.func43 (by kernel_rfl) rfl) rfl rfl rfl rfl rfl (fun t7 q8 => ?_))
  obtain ⟨g1_9, eg1_9⟩ : ∃ x, x = t7 := ⟨_, rfl⟩
  subst eg1_9
  refine L_nil ?_
  refine T_re [(0, (.slice A n c)), (4, (.pointer (some ⟨g1, 0, none⟩))), (6, (.pointer (some ⟨g6, 0, none⟩))), (20, (.func (.func 51) #[] [(.pointer (some ⟨g1_9, 0, none⟩))].toArray))] (sc rfl (sc rfl (sc rfl (sc rfl sn)))) ?_
  refine T_he [0, 1, 2, 3, 4, 5, 6, 7] [.old (some ⟨g1_9, 0, none⟩) 1 1 1 [(.slice B nq d)], .blk g6 22 [(.slice (some ⟨g5, 0, none⟩) 1 1)], .blk g5 24 [(.slice B4 64 64)], .old B4 1 64 64 ((hpad xs (54#8)).map b8), .blk g1 26 ((List.replicate 32 0#8).map b8), .rd A 1 n c (xs.map b8), .rd B 1 nq d (Q.map Pt.sl), .all Q] ⟨by decide, rfl⟩ ?_
  refine T_block ?_
  refine T_tord 0 rfl ?_
  refine T_tord 3 rfl ?_
  refine T_re [(0, (.slice A n c)), (4, (.pointer (some ⟨g1, 0, none⟩))), (6, (.pointer (some ⟨g6, 0, none⟩))), (20, (.func (.func 51) #[] [(.pointer (some ⟨g1_9, 0, none⟩))].toArray))] (sc rfl (sc rfl (sc rfl (sc rfl sn)))) ?_
  refine T_he [0, 1, 2, 3, 4, 5, 6, 7] [.rd B4 1 64 64 ((hpad xs (54#8)).map b8), .rd (some ⟨g1_9, 0, none⟩) 1 1 1 [(.slice B nq d)], .blk g6 22 [(.slice (some ⟨g5, 0, none⟩) 1 1)], .blk g5 24 [(.slice B4 64 64)], .blk g1 26 ((List.replicate 32 0#8).map b8), .rd A 1 n c (xs.map b8), .rd B 1 nq d (Q.map Pt.sl), .all Q] ⟨by decide, rfl⟩ ?_
  refine T_as 2 (.blk g6 22 [(.slice (some ⟨g5, 0, none⟩) 1 1)]) (.blk g6 22 [(.slice (some ⟨g5, 0, none⟩) (1 + 0) 1)]) rfl (by first | rfl | simp | (congr 1; simp)) ?_
  refine T_rowb 3 (zs := (([(Pt.mk B4 64 64 (hpad xs (54#8)))] ++ List.take 0 Q).map Pt.sl)) 1 (1 + 0) 1 rfl sd sd rfl (rfl) ?_
  refine T_range (Θ := Unit) (T := Option Addr × Nat) (Tx := Unit) (cap := [(.pointer (some ⟨g1_9, 0, none⟩))]) (ps := [21]) (values_seq Q B nq d g1_9 sd sd) rfl (enters_of Try.func51 (by kernel_rfl) rfl) (fun k ⟨A1, c1⟩ => k ≤ nq) (fun k ⟨A1, c1⟩ => [.rd B4 1 64 64 ((hpad xs (54#8)).map b8), .rd (some ⟨g1_9, 0, none⟩) 1 1 1 [(.slice B nq d)], .blk g6 22 [(.slice A1 (1 + k) c1)], .row (.slice A1 (1 + k) c1) 24 1 (1 + k) (([(Pt.mk B4 64 64 (hpad xs (54#8)))] ++ List.take k Q).map Pt.sl), .blk g1 26 ((List.replicate 32 0#8).map b8), .rd A 1 n c (xs.map b8), .rd B 1 nq d (Q.map Pt.sl), .all Q]) (fun _ => False) (fun _ => []) 0 (some ⟨g5, 0, none⟩, 1) (by first | trivial | ((try dsimp only); first | omega | (refine ⟨?_, ?_⟩ <;> omega) | (refine ⟨?_, ?_, ?_⟩ <;> omega) | (simp; done) | (simp; omega))) [2, 3, 1, 0, 4, 5, 6, 7] ⟨by decide, rfl⟩ [3, 6, 7] rfl rfl (fun _ _ => rfl) (fun _ => rfl) (fun _ _ => rfl) (fun _ _ => rfl) rfl (fun _ => trivial) ?_ ?_ ?_
  · intro C2 w2 lo2 rs2 l D m k t th rc hrec hk hp
    obtain ⟨A1, c1⟩ := t
    have hp : k ≤ nq := hp
    have hk : k < nq := hk
    have hF : Wid (Fence.wide.inRound l) := wid_round l
    refine T_re [(6, (.pointer (some ⟨g6, 0, none⟩))), (21, (.slice ((pat Q k).A) ((pat Q k).n) ((pat Q k).c)))] (sc rfl (sc rfl sn)) ?_
    refine T_he [0, 1, 2, 3, 4, 5, 6, 7, 8, 9, 10] [.rd ((pat Q k).A) 1 ((pat Q k).n) ((pat Q k).c) (((pat Q k).xs).map b8), .obj l (.loop rc), .obj D (.deferred (some [])), .rd B4 1 64 64 ((hpad xs (54#8)).map b8), .rd (some ⟨g1_9, 0, none⟩) 1 1 1 [(.slice B nq d)], .blk g6 22 [(.slice A1 (1 + k) c1)], .row (.slice A1 (1 + k) c1) 24 1 (1 + k) (([(Pt.mk B4 64 64 (hpad xs (54#8)))] ++ List.take k Q).map Pt.sl), .blk g1 26 ((List.replicate 32 0#8).map b8), .rd A 1 n c (xs.map b8), .rd B 1 nq d (Q.map Pt.sl), .all Q] ⟨by decide, rfl⟩ ?_
    refine T_reg hF rfl ?_
    refine L_op rfl (op_pr (pr_assign rfl rfl) rfl rfl ?_)
    refine L_nil ?_
    refine T_re [(6, (.pointer (some ⟨g6, 0, none⟩))), (7, (.slice ((pat Q k).A) ((pat Q k).n) ((pat Q k).c)))] (sc rfl (sc rfl sn)) ?_
    refine T_he [0, 1, 2, 3, 4, 5, 6, 7, 8, 9, 10] [.rd ((pat Q k).A) 1 ((pat Q k).n) ((pat Q k).c) (((pat Q k).xs).map b8), .obj l (.loop rc), .obj D (.deferred (some [])), .rd B4 1 64 64 ((hpad xs (54#8)).map b8), .rd (some ⟨g1_9, 0, none⟩) 1 1 1 [(.slice B nq d)], .blk g6 22 [(.slice A1 (1 + k) c1)], .row (.slice A1 (1 + k) c1) 24 1 (1 + k) (([(Pt.mk B4 64 64 (hpad xs (54#8)))] ++ List.take k Q).map Pt.sl), .blk g1 26 ((List.replicate 32 0#8).map b8), .rd A 1 n c (xs.map b8), .rd B 1 nq d (Q.map Pt.sl), .all Q] ⟨by decide, rfl⟩ ?_
    refine T_begun 1 rfl hrec ?_
    refine T_block ?_
    refine T_reg hF rfl ?_
    refine L_op rfl (op_ld (ld_blk 5 rfl rfl Try.underlying22 rfl rfl rfl) rfl rfl ?_)
    refine L_op rfl (op_pr (pr_move rfl rfl) rfl rfl ?_)
    refine L_op rfl (op_bslice (e := 24) (zs := [(.slice ((pat Q k).A) ((pat Q k).n) ((pat Q k).c))]) (qs := [(0, (.slice ((pat Q k).A) ((pat Q k).n) ((pat Q k).c)))]) (fun _ => by kernel_rfl) rfl rfl rfl rfl (fun g10 => ?_))
    refine L_op rfl (op_append (z := (.slice none 0 0)) (size := 1) (bytes := 24) 7 rfl Try.underlying22 (by kernel_rfl) (by kernel_rfl) (by decide) (src_full (z := 1) 0 rfl rfl sd sd) (by simp [Value.oneCell']) sd sd rfl rfl rfl rfl rfl (fun A11 C12 => ?_))
    refine T_as 0 (.row (.slice A11 (1 + k + 1) C12) 24 1 (1 + k + 1) ((([(Pt.mk B4 64 64 (hpad xs (54#8)))] ++ List.take k Q).map Pt.sl) ++ [(.slice ((pat Q k).A) ((pat Q k).n) ((pat Q k).c))])) (.row (.slice A11 (1 + k + 1) C12) 24 1 (1 + k + 1) ((([(Pt.mk B4 64 64 (hpad xs (54#8)))] ++ List.take k Q) ++ [(Pt.mk ((pat Q k).A) ((pat Q k).n) ((pat Q k).c) ((pat Q k).xs))]).map Pt.sl)) rfl (by first | rfl | (congr 1; simp; done) | (simp only [List.map_append]; rfl) | (rw [List.map_append]; rfl)) ?_
    refine L_op rfl (op_store (vs := [(.slice A11 (1 + k + 1) C12)]) (cs' := [(.slice A11 (1 + k + 1) C12)]) 7 rfl rfl (by kernel_rfl) (one_one rfl) (by first | decide | simp | exact Nat.le_refl _) rfl rfl rfl rfl rfl ?_)
    refine L_nil ?_
    refine T_re [] sn ?_
    refine T_he [0, 1, 2, 3, 4, 5, 6, 7, 8, 9, 10, 11] [.blk g6 22 [(.slice A11 (1 + k + 1) C12)], .row (.slice A11 (1 + k + 1) C12) 24 1 (1 + k + 1) ((([(Pt.mk B4 64 64 (hpad xs (54#8)))] ++ List.take k Q) ++ [(Pt.mk ((pat Q k).A) ((pat Q k).n) ((pat Q k).c) ((pat Q k).xs))]).map Pt.sl), .blk g10 24 [(.slice ((pat Q k).A) ((pat Q k).n) ((pat Q k).c))], .obj l (.loop { rc with state := .busy }), .rd ((pat Q k).A) 1 ((pat Q k).n) ((pat Q k).c) (((pat Q k).xs).map b8), .obj D (.deferred (some [])), .rd B4 1 64 64 ((hpad xs (54#8)).map b8), .rd (some ⟨g1_9, 0, none⟩) 1 1 1 [(.slice B nq d)], .blk g1 26 ((List.replicate 32 0#8).map b8), .rd A 1 n c (xs.map b8), .rd B 1 nq d (Q.map Pt.sl), .all Q] ⟨by decide, rfl⟩ ?_
    refine T_as 0 (.blk g6 22 [(.slice A11 (1 + k + 1) C12)]) (.blk g6 22 [(.slice A11 (1 + (k + 1)) C12)]) rfl (by rw [Nat.add_assoc]) ?_
    refine T_as 1 (.row (.slice A11 (1 + k + 1) C12) 24 1 (1 + k + 1) ((([(Pt.mk B4 64 64 (hpad xs (54#8)))] ++ List.take k Q) ++ [(Pt.mk ((pat Q k).A) ((pat Q k).n) ((pat Q k).c) ((pat Q k).xs))]).map Pt.sl)) (.row (.slice A11 (1 + (k + 1)) C12) 24 1 (1 + (k + 1)) (([(Pt.mk B4 64 64 (hpad xs (54#8)))] ++ List.take (k + 1) Q).map Pt.sl)) rfl (by rw [List.take_add_one, pat_opt Q k (by omega)]; simp [Nat.add_assoc]) ?_
    exact T_on (A11, C12) (by omega) [3, 5, 6, 7, 1, 0, 8, 9, 10, 11] ⟨by decide, rfl⟩
  · intro D t hp
    obtain ⟨A1, c1⟩ := t
    have hp : nq ≤ nq := hp
    refine T_re [(0, (.slice A n c)), (4, (.pointer (some ⟨g1, 0, none⟩))), (6, (.pointer (some ⟨g6, 0, none⟩)))] (sc rfl (sc rfl (sc rfl sn))) ?_
    refine T_he [0, 1, 2, 3, 4, 5, 6, 7, 8] [.obj D (.deferred (some [])), .rd B4 1 64 64 ((hpad xs (54#8)).map b8), .rd (some ⟨g1_9, 0, none⟩) 1 1 1 [(.slice B nq d)], .blk g6 22 [(.slice A1 (1 + nq) c1)], .row (.slice A1 (1 + nq) c1) 24 1 (1 + nq) (([(Pt.mk B4 64 64 (hpad xs (54#8)))] ++ List.take nq Q).map Pt.sl), .blk g1 26 ((List.replicate 32 0#8).map b8), .rd A 1 n c (xs.map b8), .rd B 1 nq d (Q.map Pt.sl), .all Q] ⟨by decide, rfl⟩ ?_
    refine T_as 4 (.row (.slice A1 (1 + nq) c1) 24 1 (1 + nq) (([(Pt.mk B4 64 64 (hpad xs (54#8)))] ++ List.take nq Q).map Pt.sl)) (.row (.slice A1 (1 + nq) c1) 24 1 (1 + nq) (([(Pt.mk B4 64 64 (hpad xs (54#8)))] ++ Q).map Pt.sl)) rfl (by rw [List.take_of_length_le (Nat.le_of_eq hQ)]) ?_
    refine T_seq ?_
    refine T_reg hF rfl ?_
    refine L_op rfl (op_ld (ld_blk 4 rfl rfl Try.underlying22 rfl rfl rfl) rfl rfl ?_)
    refine L_op rfl (op_call0 (vs := [(.slice A1 (1 + nq) c1)]) (cap := []) (fun w hw => sum_f ([(Pt.mk B4 64 64 (hpad xs (54#8)))] ++ Q) A1 (1 + nq) c1 w (hok_cons ((src_row 0 rfl) w hw) (hok_cons (all_app (all_cons ((src_rd 2 rfl) w hw) (all_nil w)) (hw _ (List.mem_of_getElem? (i := 8) rfl))) (hok_nil w))) sd (by first | assumption | omega | (simp [catp_cons, catp_nil]; done) | (simp [catp_cons, catp_nil]; omega)) sd) (enters_of Try.func17 (by kernel_rfl) rfl) rfl rfl rfl rfl rfl (fun t13 q14 => ?_))
    refine T_slot 27 (.agg ((shasum (catp ([(Pt.mk B4 64 64 (hpad xs (54#8)))] ++ Q))).map b8).toArray) (.agg ((shasum (hpad xs 54#8 ++ catp Q)).map b8).toArray) rfl (by rw [catp_app, catp_cons, catp_nil, List.append_nil]) ?_
    refine L_op rfl (op_alloc (z := .agg ((List.replicate 32 0#8).map b8).toArray) (zs := ((List.replicate 32 0#8).map b8)) (by kernel_rfl) rfl rfl rfl rfl (fun g15 => ?_))
    refine L_op rfl (op_store (vs := ((shasum (hpad xs 54#8 ++ catp Q)).map b8)) (cs' := ((shasum (hpad xs 54#8 ++ catp Q)).map b8)) 0 rfl rfl (by rw [show (((shasum (hpad xs 54#8 ++ catp Q)).map b8)).length = 32 from sd]; kernel_rfl) (all8_one _) (by have h1 : (((List.replicate 32 0#8).map b8)).length = 32 := (by kernel_rfl); have h2 : (((shasum (hpad xs 54#8 ++ catp Q)).map b8)).length = 32 := sd; omega) (splice_all (Eq.trans (b := 32) (by kernel_rfl) (Eq.symm sd))) rfl rfl rfl rfl ?_)
    refine L_nil ?_
    refine T_re [(0, (.slice A n c)), (4, (.pointer (some ⟨g1, 0, none⟩))), (8, (.pointer (some ⟨g15, 0, none⟩)))] (sc rfl (sc rfl (sc rfl sn))) ?_
    refine T_he [0, 1, 2, 3, 4, 5, 6, 7, 8, 9] [.blk g15 26 ((shasum (hpad xs 54#8 ++ catp Q)).map b8), .row (.slice A1 (1 + nq) c1) 24 1 (1 + nq) (([(Pt.mk B4 64 64 (hpad xs (54#8)))] ++ Q).map Pt.sl), .obj D (.deferred (some [])), .rd B4 1 64 64 ((hpad xs (54#8)).map b8), .rd (some ⟨g1_9, 0, none⟩) 1 1 1 [(.slice B nq d)], .blk g6 22 [(.slice A1 (1 + nq) c1)], .blk g1 26 ((List.replicate 32 0#8).map b8), .rd A 1 n c (xs.map b8), .rd B 1 nq d (Q.map Pt.sl), .all Q] ⟨by decide, rfl⟩ ?_
    refine T_seq ?_
    refine T_regD [.blk g15 26 ((shasum (hpad xs 54#8 ++ catp Q)).map b8), .row (.slice A1 (1 + nq) c1) 24 1 (1 + nq) (([(Pt.mk B4 64 64 (hpad xs (54#8)))] ++ Q).map Pt.sl), .obj D (.deferred (some [])), .rd B4 1 64 64 ((hpad xs (54#8)).map b8), .rd (some ⟨g1_9, 0, none⟩) 1 1 1 [(.slice B nq d)], .blk g6 22 [(.slice A1 (1 + nq) c1)], .blk g1 26 ((List.replicate 32 0#8).map b8), .rd A 1 n c (xs.map b8), .rd B 1 nq d (Q.map Pt.sl), .all Q] 5 6 #[false, false, false, false, false, false] hF (by kernel_rfl) (by kernel_rfl) ?_
    refine D_pure (i := 0) [0, 1, 2, 3, 4, 5, 6, 7, 8, 9] rfl (by kernel_rfl) rfl (pr_move rfl rfl) (.inr rfl) rfl rfl ?_
    refine D_pure (i := 2) [0, 1, 2, 3, 4, 5, 6, 7, 8, 9] rfl (by kernel_rfl) rfl (pr_sla (l := 0) (u := 32) (m := 0) sd sd sd rfl Try.underlying26 (z := 1) (by kernel_rfl) rfl rfl rfl rfl) (.inr rfl) rfl rfl ?_
    refine D_one 1 _ rfl (by kernel_rfl) rfl (op_call0 (vs := [(.slice A n c), (b8 (92#8))]) (cap := []) (fun w hw => turned_f xs (92#8) A n c w (hok_cons ((src_rd 7 rfl) w hw) (hok_nil w)) sd sd) (enters_of Try.func42 (by kernel_rfl) rfl) rfl rfl rfl rfl rfl (fun t16 q17 => ?_))
    obtain ⟨B18, eB18⟩ : ∃ x, x = t16 := ⟨_, rfl⟩
    subst eB18
    refine D_on [1, 2, 3, 4, 5, 6, 7, 8, 9, 10] rfl ?_
    refine D_one 3 _ rfl (by kernel_rfl) rfl (op_bslice (e := 24) (zs := [(.slice B18 64 64), (.slice (some ⟨g15, 0, none⟩) 32 32)]) (qs := [(0, (.slice B18 64 64)), (1, (.slice (some ⟨g15, 0, none⟩) 32 32))]) (fun _ => by kernel_rfl) rfl rfl rfl rfl (fun g19 => ?_))
    refine D_on [2, 3, 4, 5, 6, 7, 8, 9, 10, 11] rfl ?_
    refine D_one 4 _ rfl (by kernel_rfl) rfl (op_call0 (vs := [(.slice (some ⟨g19, 0, none⟩) 2 2)]) (cap := []) (fun w hw => sum_f [(Pt.mk B18 64 64 (hpad xs (92#8))), (Pt.mk (some ⟨g15, 0, none⟩) 32 32 (shasum (hpad xs 54#8 ++ catp Q)))] (some ⟨g19, 0, none⟩) 2 2 w (hok_cons ((src_full (z := 1) 0 rfl rfl sd sd) w hw) (hok_cons (all_cons ((src_old 1 rfl) w hw) (all_cons ((src_full (z := 1) 2 rfl sd sd sd) w hw) (all_nil w))) (hok_nil w))) sd (by first | assumption | omega | (simp [catp_cons, catp_nil]; done) | (simp [catp_cons, catp_nil]; omega)) sd) (enters_of Try.func17 (by kernel_rfl) rfl) rfl rfl rfl rfl rfl (fun t20 q21 => ?_))
    refine T_slot 32 (.agg ((shasum (catp [(Pt.mk B18 64 64 (hpad xs (92#8))), (Pt.mk (some ⟨g15, 0, none⟩) 32 32 (shasum (hpad xs 54#8 ++ catp Q)))])).map b8).toArray) (.agg ((shasum (hpad xs 92#8 ++ (shasum (hpad xs 54#8 ++ catp Q)))).map b8).toArray) rfl (by rw [catp_cons, catp_cons, catp_nil, List.append_nil]) ?_
    refine D_on [2, 3, 4, 5, 6, 7, 8, 9, 10, 11] rfl ?_
    refine D_one 5 _ rfl (by kernel_rfl) rfl (op_store (vs := ((shasum (hpad xs 92#8 ++ (shasum (hpad xs 54#8 ++ catp Q)))).map b8)) (cs' := ((shasum (hpad xs 92#8 ++ (shasum (hpad xs 54#8 ++ catp Q)))).map b8)) 8 rfl rfl (by rw [show (((shasum (hpad xs 92#8 ++ (shasum (hpad xs 54#8 ++ catp Q)))).map b8)).length = 32 from sd]; kernel_rfl) (all8_one _) (by have h1 : (((List.replicate 32 0#8).map b8)).length = 32 := (by kernel_rfl); have h2 : (((shasum (hpad xs 92#8 ++ (shasum (hpad xs 54#8 ++ catp Q)))).map b8)).length = 32 := sd; omega) (splice_all (Eq.trans (b := 32) (by kernel_rfl) (Eq.symm sd))) rfl rfl rfl rfl ?_)
    refine D_past (by kernel_rfl) ?_
    refine D_done (by kernel_rfl) ?_
    refine T_re [(4, (.pointer (some ⟨g1, 0, none⟩)))] (sc rfl sn) ?_
    refine T_he [0, 1, 2, 3, 4, 5, 6, 7, 8, 9, 10, 11] [.blk g1 26 ((shasum (hpad xs 92#8 ++ (shasum (hpad xs 54#8 ++ catp Q)))).map b8), .blk g19 24 [(.slice B18 64 64), (.slice (some ⟨g15, 0, none⟩) 32 32)], .old B18 1 64 64 ((hpad xs (92#8)).map b8), .blk g15 26 ((shasum (hpad xs 54#8 ++ catp Q)).map b8), .row (.slice A1 (1 + nq) c1) 24 1 (1 + nq) (([(Pt.mk B4 64 64 (hpad xs (54#8)))] ++ Q).map Pt.sl), .obj D (.deferred (some [])), .rd B4 1 64 64 ((hpad xs (54#8)).map b8), .rd (some ⟨g1_9, 0, none⟩) 1 1 1 [(.slice B nq d)], .blk g6 22 [(.slice A1 (1 + nq) c1)], .rd A 1 n c (xs.map b8), .rd B 1 nq d (Q.map Pt.sl), .all Q] ⟨by decide, rfl⟩ ?_
    refine T_ret ?_
    refine T_as 0 (.blk g1 26 ((shasum (hpad xs 92#8 ++ (shasum (hpad xs 54#8 ++ catp Q)))).map b8)) (.blk g1 26 ((mactag xs (catp Q)).map b8)) rfl (by rw [mactag_short xs (catp Q) (by omega)]) ?_
    exact T_finM 5 rfl () (by first | trivial | omega | (simp; done)) (resb 0 rfl rfl rfl Try.underlying26 rfl (by rw [show (((mactag xs (catp Q)).map b8)).length = 32 from sd]; kernel_rfl)) [] ⟨by decide, rfl⟩ rfl
  · exact fun D t hq => hq.elim
set_option maxHeartbeats 4000000 in
theorem tag_l_f (xs : List (BitVec 8)) (A : Option Addr) (n : Nat) (c : Nat) (Q : List Pt) (B : Option Addr) (nq : Nat) (d : Nat) (w : World) (hO : HOK [.rd A 1 n c (xs.map b8), .rd B 1 nq d (Q.map Pt.sl), .all Q] w) (hx : xs.length = n) (hn : 64 < n ∧ n ≤ 900000000) (hQ : Q.length = nq) (hm : nq ≤ 100000000) (hs : (catp Q).length ≤ 900000000) : Calls Try.prog 27 [(.slice A n c), (.slice B nq d)].toArray w (Ret (T := Unit) [] w (fun _ => True) (fun _ => (.agg ((mactag xs (catp Q)).map b8).toArray)) (fun _ => [])) := by
  have hsl := shasum_len xs
  have hs1 := shasum_len (hpad (shasum xs) 54#8 ++ catp Q)
  have hs2 := shasum_len (hpad (shasum xs) 92#8 ++ (shasum (hpad (shasum xs) 54#8 ++ catp Q)))
  have hp1 := hpad_len (shasum xs) 54#8
  have hp2 := hpad_len (shasum xs) 92#8
  have hml := mactag_len xs (catp Q)
  have hcl : (catp ([Pt.mk none 0 0 (hpad (shasum xs) 54#8)] ++ Q)).length = 64 + (catp Q).length := by rw [catp_app, List.length_append, catp_cons, catp_nil, List.append_nil, hp1]
  have hF : Wid Fence.wide := wid_wide
  refine enter_m (c := _) Try.func27 rfl [] [(.slice A n c), (.slice B nq d)] [.rd A 1 n c (xs.map b8), .rd B 1 nq d (Q.map Pt.sl), .all Q] (by rw [Try.ntmps27]; rfl) (own_rds hO rfl) ?_
  rw [Try.ntmps27]
  refine T_re [(0, (.slice A n c)), (1, (.slice B nq d))] (sc rfl (sc rfl sn)) ?_
  refine T_he [0, 1, 2] [.rd A 1 n c (xs.map b8), .rd B 1 nq d (Q.map Pt.sl), .all Q] ⟨by decide, rfl⟩ ?_
  refine T_seq ?_
  refine T_reg hF rfl ?_
  refine L_op rfl (op_alloc (z := .agg ((List.replicate 32 0#8).map b8).toArray) (zs := ((List.replicate 32 0#8).map b8)) (by kernel_rfl) rfl rfl rfl rfl (fun g1 => ?_))
  refine L_nil ?_
  refine T_re [(0, (.slice A n c)), (1, (.slice B nq d)), (4, (.pointer (some ⟨g1, 0, none⟩)))] (sc rfl (sc rfl (sc rfl sn))) ?_
  refine T_he [0, 1, 2, 3] [.blk g1 26 ((List.replicate 32 0#8).map b8), .rd A 1 n c (xs.map b8), .rd B 1 nq d (Q.map Pt.sl), .all Q] ⟨by decide, rfl⟩ ?_
  refine T_seq ?_
  refine T_seq ?_
  refine T_reg hF rfl ?_
  refine L_op rfl (op_pr (pr_move rfl rfl) rfl rfl ?_)
  refine L_op rfl (op_pr (pr_len_sl Try.underlying24 rfl rfl) rfl rfl ?_)
  refine L_op rfl (op_pr (pr_cmp (bo := .gtr) (nc_lt (a := 64) (b := n)) rfl rfl rfl rfl) rfl rfl ?_)
  refine L_nil ?_
  refine T_re [(0, (.slice A n c)), (1, (.slice B nq d)), (4, (.pointer (some ⟨g1, 0, none⟩))), (11, (.bool (decide (64 < n))))] (sc rfl (sc rfl (sc rfl (sc rfl sn)))) ?_
  refine T_he [0, 1, 2, 3] [.blk g1 26 ((List.replicate 32 0#8).map b8), .rd A 1 n c (xs.map b8), .rd B 1 nq d (Q.map Pt.sl), .all Q] ⟨by decide, rfl⟩ ?_
  refine T_cond_yes (t := decide (64 < n)) rfl (by simp; omega) ?_
  refine T_seq ?_
  refine T_reg hF rfl ?_
  refine L_op rfl (op_pr (pr_move rfl rfl) rfl rfl ?_)
  refine L_op rfl (op_bslice (e := 24) (zs := [(.slice A n c)]) (qs := [(0, (.slice A n c))]) (fun _ => by kernel_rfl) rfl rfl rfl rfl (fun g2 => ?_))
  refine L_op rfl (op_call0 (vs := [(.slice (some ⟨g2, 0, none⟩) 1 1)]) (cap := []) (fun w hw => sum_f [(Pt.mk A n c xs)] (some ⟨g2, 0, none⟩) 1 1 w (hok_cons ((src_full (z := 1) 0 rfl rfl sd sd) w hw) (hok_cons (all_cons ((src_rd 2 rfl) w hw) (all_nil w)) (hok_nil w))) sd (by first | assumption | omega | (simp [catp_cons, catp_nil]; done) | (simp [catp_cons, catp_nil]; omega)) sd) (enters_of Try.func17 (by kernel_rfl) rfl) rfl rfl rfl rfl rfl (fun t3 q4 => ?_))
  refine T_slot 14 (.agg ((shasum (catp [(Pt.mk A n c xs)])).map b8).toArray) (.agg ((shasum xs).map b8).toArray) rfl (by rw [catp_cons, catp_nil, List.append_nil]) ?_
  refine L_op rfl (op_alloc (z := .agg ((List.replicate 32 0#8).map b8).toArray) (zs := ((List.replicate 32 0#8).map b8)) (by kernel_rfl) rfl rfl rfl rfl (fun g5 => ?_))
  refine L_op rfl (op_store (vs := ((shasum xs).map b8)) (cs' := ((shasum xs).map b8)) 0 rfl rfl (by rw [show (((shasum xs).map b8)).length = 32 from sd]; kernel_rfl) (all8_one _) (by have h1 : (((List.replicate 32 0#8).map b8)).length = 32 := (by kernel_rfl); have h2 : (((shasum xs).map b8)).length = 32 := sd; omega) (splice_all (Eq.trans (b := 32) (by kernel_rfl) (Eq.symm sd))) rfl rfl rfl rfl ?_)
  refine L_nil ?_
  refine T_re [(1, (.slice B nq d)), (4, (.pointer (some ⟨g1, 0, none⟩))), (5, (.pointer (some ⟨g5, 0, none⟩)))] (sc rfl (sc rfl (sc rfl sn))) ?_
  refine T_he [0, 1, 2, 3, 4, 5] [.blk g5 26 ((shasum xs).map b8), .blk g2 24 [(.slice A n c)], .blk g1 26 ((List.replicate 32 0#8).map b8), .rd A 1 n c (xs.map b8), .rd B 1 nq d (Q.map Pt.sl), .all Q] ⟨by decide, rfl⟩ ?_
  refine T_reg hF rfl ?_
  refine L_op rfl (op_pr (pr_sla (l := 0) (u := 32) (m := 0) sd sd sd rfl Try.underlying26 (z := 1) (by kernel_rfl) rfl rfl rfl rfl) rfl rfl ?_)
  refine L_op rfl (op_pr (pr_assign rfl rfl) rfl rfl ?_)
  refine L_nil ?_
  refine T_re [(0, (.slice (some ⟨g5, 0, none⟩) 32 32)), (1, (.slice B nq d)), (4, (.pointer (some ⟨g1, 0, none⟩)))] (sc rfl (sc rfl (sc rfl sn))) ?_
  refine T_he [0, 1, 2, 3, 4, 5] [.blk g5 26 ((shasum xs).map b8), .blk g2 24 [(.slice A n c)], .blk g1 26 ((List.replicate 32 0#8).map b8), .rd A 1 n c (xs.map b8), .rd B 1 nq d (Q.map Pt.sl), .all Q] ⟨by decide, rfl⟩ ?_
  refine T_seq ?_
  refine T_reg hF rfl ?_
  refine L_op rfl (op_pr (pr_move rfl rfl) rfl rfl ?_)
  refine L_op rfl (op_call0 (vs := [(.slice (some ⟨g5, 0, none⟩) 32 32), (b8 (54#8))]) (cap := []) (fun w hw => turned_f (shasum xs) (54#8) (some ⟨g5, 0, none⟩) 32 32 w (hok_cons ((src_full (z := 1) 0 rfl sd sd sd) w hw) (hok_nil w)) sd sd) (enters_of Try.func42 (by kernel_rfl) rfl) rfl rfl rfl rfl rfl (fun t6 q7 => ?_))
  obtain ⟨B8, eB8⟩ : ∃ x, x = t6 := ⟨_, rfl⟩
  subst eB8
  refine L_op rfl (op_bslice (e := 24) (zs := [(.slice B8 64 64)]) (qs := [(0, (.slice B8 64 64))]) (fun _ => by kernel_rfl) rfl rfl rfl rfl (fun g9 => ?_))
  refine L_op rfl (op_alloc (z := (.slice none 0 0)) (zs := [(.slice none 0 0)]) (by kernel_rfl) rfl rfl rfl rfl (fun g10 => ?_))
  refine L_op rfl (op_store (vs := [(.slice (some ⟨g9, 0, none⟩) 1 1)]) (cs' := [(.slice (some ⟨g9, 0, none⟩) 1 1)]) 0 rfl rfl (by kernel_rfl) (one_one rfl) (by first | decide | simp | exact Nat.le_refl _) rfl rfl rfl rfl rfl ?_)
  refine L_nil ?_
  refine T_re [(0, (.slice (some ⟨g5, 0, none⟩) 32 32)), (1, (.slice B nq d)), (4, (.pointer (some ⟨g1, 0, none⟩))), (6, (.pointer (some ⟨g10, 0, none⟩)))] (sc rfl (sc rfl (sc rfl (sc rfl sn)))) ?_
  refine T_he [0, 1, 2, 3, 4, 5, 6, 7, 8] [.blk g10 22 [(.slice (some ⟨g9, 0, none⟩) 1 1)], .blk g9 24 [(.slice B8 64 64)], .old B8 1 64 64 ((hpad (shasum xs) (54#8)).map b8), .blk g5 26 ((shasum xs).map b8), .blk g2 24 [(.slice A n c)], .blk g1 26 ((List.replicate 32 0#8).map b8), .rd A 1 n c (xs.map b8), .rd B 1 nq d (Q.map Pt.sl), .all Q] ⟨by decide, rfl⟩ ?_
  refine T_seq ?_
  refine T_seq ?_
  refine T_reg hF rfl ?_
  refine L_op rfl (op_pr (pr_move rfl rfl) rfl rfl ?_)
  refine L_op rfl (op_call0 (vs := [(.slice B nq d)]) (cap := []) (fun w hw => values_f B nq d w (hok_nil w) ) (enters_of Try.func43 (by kernel_rfl) rfl) rfl rfl rfl rfl rfl (fun t11 q12 => ?_))
  obtain ⟨g1_13, eg1_13⟩ : ∃ x, x = t11 := ⟨_, rfl⟩
  subst eg1_13
  refine L_nil ?_
  refine T_re [(0, (.slice (some ⟨g5, 0, none⟩) 32 32)), (4, (.pointer (some ⟨g1, 0, none⟩))), (6, (.pointer (some ⟨g10, 0, none⟩))), (20, (.func (.func 51) #[] [(.pointer (some ⟨g1_13, 0, none⟩))].toArray))] (sc rfl (sc rfl (sc rfl (sc rfl sn)))) ?_
  refine T_he [0, 1, 2, 3, 4, 5, 6, 7, 8, 9] [.old (some ⟨g1_13, 0, none⟩) 1 1 1 [(.slice B nq d)], .blk g10 22 [(.slice (some ⟨g9, 0, none⟩) 1 1)], .blk g9 24 [(.slice B8 64 64)], .old B8 1 64 64 ((hpad (shasum xs) (54#8)).map b8), .blk g5 26 ((shasum xs).map b8), .blk g2 24 [(.slice A n c)], .blk g1 26 ((List.replicate 32 0#8).map b8), .rd A 1 n c (xs.map b8), .rd B 1 nq d (Q.map Pt.sl), .all Q] ⟨by decide, rfl⟩ ?_
  refine T_block ?_
  refine T_tord 0 rfl ?_
  refine T_tord 3 rfl ?_
  refine T_re [(0, (.slice (some ⟨g5, 0, none⟩) 32 32)), (4, (.pointer (some ⟨g1, 0, none⟩))), (6, (.pointer (some ⟨g10, 0, none⟩))), (20, (.func (.func 51) #[] [(.pointer (some ⟨g1_13, 0, none⟩))].toArray))] (sc rfl (sc rfl (sc rfl (sc rfl sn)))) ?_
  refine T_he [0, 1, 2, 3, 4, 5, 6, 7, 8, 9] [.rd B8 1 64 64 ((hpad (shasum xs) (54#8)).map b8), .rd (some ⟨g1_13, 0, none⟩) 1 1 1 [(.slice B nq d)], .blk g10 22 [(.slice (some ⟨g9, 0, none⟩) 1 1)], .blk g9 24 [(.slice B8 64 64)], .blk g5 26 ((shasum xs).map b8), .blk g2 24 [(.slice A n c)], .blk g1 26 ((List.replicate 32 0#8).map b8), .rd A 1 n c (xs.map b8), .rd B 1 nq d (Q.map Pt.sl), .all Q] ⟨by decide, rfl⟩ ?_
  refine T_as 2 (.blk g10 22 [(.slice (some ⟨g9, 0, none⟩) 1 1)]) (.blk g10 22 [(.slice (some ⟨g9, 0, none⟩) (1 + 0) 1)]) rfl (by first | rfl | simp | (congr 1; simp)) ?_
  refine T_rowb 3 (zs := (([(Pt.mk B8 64 64 (hpad (shasum xs) (54#8)))] ++ List.take 0 Q).map Pt.sl)) 1 (1 + 0) 1 rfl sd sd rfl (rfl) ?_
  refine T_range (Θ := Unit) (T := Option Addr × Nat) (Tx := Unit) (cap := [(.pointer (some ⟨g1_13, 0, none⟩))]) (ps := [21]) (values_seq Q B nq d g1_13 sd sd) rfl (enters_of Try.func51 (by kernel_rfl) rfl) (fun k ⟨A1, c1⟩ => k ≤ nq) (fun k ⟨A1, c1⟩ => [.rd B8 1 64 64 ((hpad (shasum xs) (54#8)).map b8), .rd (some ⟨g1_13, 0, none⟩) 1 1 1 [(.slice B nq d)], .blk g10 22 [(.slice A1 (1 + k) c1)], .row (.slice A1 (1 + k) c1) 24 1 (1 + k) (([(Pt.mk B8 64 64 (hpad (shasum xs) (54#8)))] ++ List.take k Q).map Pt.sl), .blk g5 26 ((shasum xs).map b8), .blk g2 24 [(.slice A n c)], .blk g1 26 ((List.replicate 32 0#8).map b8), .rd A 1 n c (xs.map b8), .rd B 1 nq d (Q.map Pt.sl), .all Q]) (fun _ => False) (fun _ => []) 0 (some ⟨g9, 0, none⟩, 1) (by first | trivial | ((try dsimp only); first | omega | (refine ⟨?_, ?_⟩ <;> omega) | (refine ⟨?_, ?_, ?_⟩ <;> omega) | (simp; done) | (simp; omega))) [2, 3, 1, 0, 4, 5, 6, 7, 8, 9] ⟨by decide, rfl⟩ [3, 8, 9] rfl rfl (fun _ _ => rfl) (fun _ => rfl) (fun _ _ => rfl) (fun _ _ => rfl) rfl (fun _ => trivial) ?_ ?_ ?_
  · intro C2 w2 lo2 rs2 l D m k t th rc hrec hk hp
    obtain ⟨A1, c1⟩ := t
    have hp : k ≤ nq := hp
    have hk : k < nq := hk
    have hF : Wid (Fence.wide.inRound l) := wid_round l
    refine T_re [(6, (.pointer (some ⟨g10, 0, none⟩))), (21, (.slice ((pat Q k).A) ((pat Q k).n) ((pat Q k).c)))] (sc rfl (sc rfl sn)) ?_
    refine T_he [0, 1, 2, 3, 4, 5, 6, 7, 8, 9, 10, 11, 12] [.rd ((pat Q k).A) 1 ((pat Q k).n) ((pat Q k).c) (((pat Q k).xs).map b8), .obj l (.loop rc), .obj D (.deferred (some [])), .rd B8 1 64 64 ((hpad (shasum xs) (54#8)).map b8), .rd (some ⟨g1_13, 0, none⟩) 1 1 1 [(.slice B nq d)], .blk g10 22 [(.slice A1 (1 + k) c1)], .row (.slice A1 (1 + k) c1) 24 1 (1 + k) (([(Pt.mk B8 64 64 (hpad (shasum xs) (54#8)))] ++ List.take k Q).map Pt.sl), .blk g5 26 ((shasum xs).map b8), .blk g2 24 [(.slice A n c)], .blk g1 26 ((List.replicate 32 0#8).map b8), .rd A 1 n c (xs.map b8), .rd B 1 nq d (Q.map Pt.sl), .all Q] ⟨by decide, rfl⟩ ?_
    refine T_reg hF rfl ?_
    refine L_op rfl (op_pr (pr_assign rfl rfl) rfl rfl ?_)
    refine L_nil ?_
    refine T_re [(6, (.pointer (some ⟨g10, 0, none⟩))), (7, (.slice ((pat Q k).A) ((pat Q k).n) ((pat Q k).c)))] (sc rfl (sc rfl sn)) ?_
    refine T_he [0, 1, 2, 3, 4, 5, 6, 7, 8, 9, 10, 11, 12] [.rd ((pat Q k).A) 1 ((pat Q k).n) ((pat Q k).c) (((pat Q k).xs).map b8), .obj l (.loop rc), .obj D (.deferred (some [])), .rd B8 1 64 64 ((hpad (shasum xs) (54#8)).map b8), .rd (some ⟨g1_13, 0, none⟩) 1 1 1 [(.slice B nq d)], .blk g10 22 [(.slice A1 (1 + k) c1)], .row (.slice A1 (1 + k) c1) 24 1 (1 + k) (([(Pt.mk B8 64 64 (hpad (shasum xs) (54#8)))] ++ List.take k Q).map Pt.sl), .blk g5 26 ((shasum xs).map b8), .blk g2 24 [(.slice A n c)], .blk g1 26 ((List.replicate 32 0#8).map b8), .rd A 1 n c (xs.map b8), .rd B 1 nq d (Q.map Pt.sl), .all Q] ⟨by decide, rfl⟩ ?_
    refine T_begun 1 rfl hrec ?_
    refine T_block ?_
    refine T_reg hF rfl ?_
    refine L_op rfl (op_ld (ld_blk 5 rfl rfl Try.underlying22 rfl rfl rfl) rfl rfl ?_)
    refine L_op rfl (op_pr (pr_move rfl rfl) rfl rfl ?_)
    refine L_op rfl (op_bslice (e := 24) (zs := [(.slice ((pat Q k).A) ((pat Q k).n) ((pat Q k).c))]) (qs := [(0, (.slice ((pat Q k).A) ((pat Q k).n) ((pat Q k).c)))]) (fun _ => by kernel_rfl) rfl rfl rfl rfl (fun g14 => ?_))
    refine L_op rfl (op_append (z := (.slice none 0 0)) (size := 1) (bytes := 24) 7 rfl Try.underlying22 (by kernel_rfl) (by kernel_rfl) (by decide) (src_full (z := 1) 0 rfl rfl sd sd) (by simp [Value.oneCell']) sd sd rfl rfl rfl rfl rfl (fun A15 C16 => ?_))
    refine T_as 0 (.row (.slice A15 (1 + k + 1) C16) 24 1 (1 + k + 1) ((([(Pt.mk B8 64 64 (hpad (shasum xs) (54#8)))] ++ List.take k Q).map Pt.sl) ++ [(.slice ((pat Q k).A) ((pat Q k).n) ((pat Q k).c))])) (.row (.slice A15 (1 + k + 1) C16) 24 1 (1 + k + 1) ((([(Pt.mk B8 64 64 (hpad (shasum xs) (54#8)))] ++ List.take k Q) ++ [(Pt.mk ((pat Q k).A) ((pat Q k).n) ((pat Q k).c) ((pat Q k).xs))]).map Pt.sl)) rfl (by first | rfl | (congr 1; simp; done) | (simp only [List.map_append]; rfl) | (rw [List.map_append]; rfl)) ?_
    refine L_op rfl (op_store (vs := [(.slice A15 (1 + k + 1) C16)]) (cs' := [(.slice A15 (1 + k + 1) C16)]) 7 rfl rfl (by kernel_rfl) (one_one rfl) (by first | decide | simp | exact Nat.le_refl _) rfl rfl rfl rfl rfl ?_)
    refine L_nil ?_
    refine T_re [] sn ?_
    refine T_he [0, 1, 2, 3, 4, 5, 6, 7, 8, 9, 10, 11, 12, 13] [.blk g10 22 [(.slice A15 (1 + k + 1) C16)], .row (.slice A15 (1 + k + 1) C16) 24 1 (1 + k + 1) ((([(Pt.mk B8 64 64 (hpad (shasum xs) (54#8)))] ++ List.take k Q) ++ [(Pt.mk ((pat Q k).A) ((pat Q k).n) ((pat Q k).c) ((pat Q k).xs))]).map Pt.sl), .blk g14 24 [(.slice ((pat Q k).A) ((pat Q k).n) ((pat Q k).c))], .obj l (.loop { rc with state := .busy }), .rd ((pat Q k).A) 1 ((pat Q k).n) ((pat Q k).c) (((pat Q k).xs).map b8), .obj D (.deferred (some [])), .rd B8 1 64 64 ((hpad (shasum xs) (54#8)).map b8), .rd (some ⟨g1_13, 0, none⟩) 1 1 1 [(.slice B nq d)], .blk g5 26 ((shasum xs).map b8), .blk g2 24 [(.slice A n c)], .blk g1 26 ((List.replicate 32 0#8).map b8), .rd A 1 n c (xs.map b8), .rd B 1 nq d (Q.map Pt.sl), .all Q] ⟨by decide, rfl⟩ ?_
    refine T_as 0 (.blk g10 22 [(.slice A15 (1 + k + 1) C16)]) (.blk g10 22 [(.slice A15 (1 + (k + 1)) C16)]) rfl (by rw [Nat.add_assoc]) ?_
    refine T_as 1 (.row (.slice A15 (1 + k + 1) C16) 24 1 (1 + k + 1) ((([(Pt.mk B8 64 64 (hpad (shasum xs) (54#8)))] ++ List.take k Q) ++ [(Pt.mk ((pat Q k).A) ((pat Q k).n) ((pat Q k).c) ((pat Q k).xs))]).map Pt.sl)) (.row (.slice A15 (1 + (k + 1)) C16) 24 1 (1 + (k + 1)) (([(Pt.mk B8 64 64 (hpad (shasum xs) (54#8)))] ++ List.take (k + 1) Q).map Pt.sl)) rfl (by rw [List.take_add_one, pat_opt Q k (by omega)]; simp [Nat.add_assoc]) ?_
    exact T_on (A15, C16) (by omega) [3, 5, 6, 7, 1, 0, 8, 9, 10, 11, 12, 13] ⟨by decide, rfl⟩
  · intro D t hp
    obtain ⟨A1, c1⟩ := t
    have hp : nq ≤ nq := hp
    refine T_re [(0, (.slice (some ⟨g5, 0, none⟩) 32 32)), (4, (.pointer (some ⟨g1, 0, none⟩))), (6, (.pointer (some ⟨g10, 0, none⟩)))] (sc rfl (sc rfl (sc rfl sn))) ?_
    refine T_he [0, 1, 2, 3, 4, 5, 6, 7, 8, 9, 10] [.obj D (.deferred (some [])), .rd B8 1 64 64 ((hpad (shasum xs) (54#8)).map b8), .rd (some ⟨g1_13, 0, none⟩) 1 1 1 [(.slice B nq d)], .blk g10 22 [(.slice A1 (1 + nq) c1)], .row (.slice A1 (1 + nq) c1) 24 1 (1 + nq) (([(Pt.mk B8 64 64 (hpad (shasum xs) (54#8)))] ++ List.take nq Q).map Pt.sl), .blk g5 26 ((shasum xs).map b8), .blk g2 24 [(.slice A n c)], .blk g1 26 ((List.replicate 32 0#8).map b8), .rd A 1 n c (xs.map b8), .rd B 1 nq d (Q.map Pt.sl), .all Q] ⟨by decide, rfl⟩ ?_
    refine T_as 4 (.row (.slice A1 (1 + nq) c1) 24 1 (1 + nq) (([(Pt.mk B8 64 64 (hpad (shasum xs) (54#8)))] ++ List.take nq Q).map Pt.sl)) (.row (.slice A1 (1 + nq) c1) 24 1 (1 + nq) (([(Pt.mk B8 64 64 (hpad (shasum xs) (54#8)))] ++ Q).map Pt.sl)) rfl (by rw [List.take_of_length_le (Nat.le_of_eq hQ)]) ?_
    refine T_seq ?_
    refine T_reg hF rfl ?_
    refine L_op rfl (op_ld (ld_blk 4 rfl rfl Try.underlying22 rfl rfl rfl) rfl rfl ?_)
    refine L_op rfl (op_call0 (vs := [(.slice A1 (1 + nq) c1)]) (cap := []) (fun w hw => sum_f ([(Pt.mk B8 64 64 (hpad (shasum xs) (54#8)))] ++ Q) A1 (1 + nq) c1 w (hok_cons ((src_row 0 rfl) w hw) (hok_cons (all_app (all_cons ((src_rd 2 rfl) w hw) (all_nil w)) (hw _ (List.mem_of_getElem? (i := 10) rfl))) (hok_nil w))) sd (by first | assumption | omega | (simp [catp_cons, catp_nil]; done) | (simp [catp_cons, catp_nil]; omega)) sd) (enters_of Try.func17 (by kernel_rfl) rfl) rfl rfl rfl rfl rfl (fun t17 q18 => ?_))
    refine T_slot 27 (.agg ((shasum (catp ([(Pt.mk B8 64 64 (hpad (shasum xs) (54#8)))] ++ Q))).map b8).toArray) (.agg ((shasum (hpad (shasum xs) 54#8 ++ catp Q)).map b8).toArray) rfl (by rw [catp_app, catp_cons, catp_nil, List.append_nil]) ?_
    refine L_op rfl (op_alloc (z := .agg ((List.replicate 32 0#8).map b8).toArray) (zs := ((List.replicate 32 0#8).map b8)) (by kernel_rfl) rfl rfl rfl rfl (fun g19 => ?_))
    refine L_op rfl (op_store (vs := ((shasum (hpad (shasum xs) 54#8 ++ catp Q)).map b8)) (cs' := ((shasum (hpad (shasum xs) 54#8 ++ catp Q)).map b8)) 0 rfl rfl (by rw [show (((shasum (hpad (shasum xs) 54#8 ++ catp Q)).map b8)).length = 32 from sd]; kernel_rfl) (all8_one _) (by have h1 : (((List.replicate 32 0#8).map b8)).length = 32 := (by kernel_rfl); have h2 : (((shasum (hpad (shasum xs) 54#8 ++ catp Q)).map b8)).length = 32 := sd; omega) (splice_all (Eq.trans (b := 32) (by kernel_rfl) (Eq.symm sd))) rfl rfl rfl rfl ?_)
    refine L_nil ?_
    refine T_re [(0, (.slice (some ⟨g5, 0, none⟩) 32 32)), (4, (.pointer (some ⟨g1, 0, none⟩))), (8, (.pointer (some ⟨g19, 0, none⟩)))] (sc rfl (sc rfl (sc rfl sn))) ?_
    refine T_he [0, 1, 2, 3, 4, 5, 6, 7, 8, 9, 10, 11] [.blk g19 26 ((shasum (hpad (shasum xs) 54#8 ++ catp Q)).map b8), .row (.slice A1 (1 + nq) c1) 24 1 (1 + nq) (([(Pt.mk B8 64 64 (hpad (shasum xs) (54#8)))] ++ Q).map Pt.sl), .obj D (.deferred (some [])), .rd B8 1 64 64 ((hpad (shasum xs) (54#8)).map b8), .rd (some ⟨g1_13, 0, none⟩) 1 1 1 [(.slice B nq d)], .blk g10 22 [(.slice A1 (1 + nq) c1)], .blk g5 26 ((shasum xs).map b8), .blk g2 24 [(.slice A n c)], .blk g1 26 ((List.replicate 32 0#8).map b8), .rd A 1 n c (xs.map b8), .rd B 1 nq d (Q.map Pt.sl), .all Q] ⟨by decide, rfl⟩ ?_
    refine T_seq ?_
    refine T_regD [.blk g19 26 ((shasum (hpad (shasum xs) 54#8 ++ catp Q)).map b8), .row (.slice A1 (1 + nq) c1) 24 1 (1 + nq) (([(Pt.mk B8 64 64 (hpad (shasum xs) (54#8)))] ++ Q).map Pt.sl), .obj D (.deferred (some [])), .rd B8 1 64 64 ((hpad (shasum xs) (54#8)).map b8), .rd (some ⟨g1_13, 0, none⟩) 1 1 1 [(.slice B nq d)], .blk g10 22 [(.slice A1 (1 + nq) c1)], .blk g5 26 ((shasum xs).map b8), .blk g2 24 [(.slice A n c)], .blk g1 26 ((List.replicate 32 0#8).map b8), .rd A 1 n c (xs.map b8), .rd B 1 nq d (Q.map Pt.sl), .all Q] 5 6 #[false, false, false, false, false, false] hF (by kernel_rfl) (by kernel_rfl) ?_
    refine D_pure (i := 0) [0, 1, 2, 3, 4, 5, 6, 7, 8, 9, 10, 11] rfl (by kernel_rfl) rfl (pr_move rfl rfl) (.inr rfl) rfl rfl ?_
    refine D_pure (i := 2) [0, 1, 2, 3, 4, 5, 6, 7, 8, 9, 10, 11] rfl (by kernel_rfl) rfl (pr_sla (l := 0) (u := 32) (m := 0) sd sd sd rfl Try.underlying26 (z := 1) (by kernel_rfl) rfl rfl rfl rfl) (.inr rfl) rfl rfl ?_
    refine D_one 1 _ rfl (by kernel_rfl) rfl (op_call0 (vs := [(.slice (some ⟨g5, 0, none⟩) 32 32), (b8 (92#8))]) (cap := []) (fun w hw => turned_f (shasum xs) (92#8) (some ⟨g5, 0, none⟩) 32 32 w (hok_cons ((src_full (z := 1) 6 rfl sd sd sd) w hw) (hok_nil w)) sd sd) (enters_of Try.func42 (by kernel_rfl) rfl) rfl rfl rfl rfl rfl (fun t20 q21 => ?_))
    obtain ⟨B22, eB22⟩ : ∃ x, x = t20 := ⟨_, rfl⟩
    subst eB22
    refine D_on [1, 2, 3, 4, 5, 6, 7, 8, 9, 10, 11, 12] rfl ?_
    refine D_one 3 _ rfl (by kernel_rfl) rfl (op_bslice (e := 24) (zs := [(.slice B22 64 64), (.slice (some ⟨g19, 0, none⟩) 32 32)]) (qs := [(0, (.slice B22 64 64)), (1, (.slice (some ⟨g19, 0, none⟩) 32 32))]) (fun _ => by kernel_rfl) rfl rfl rfl rfl (fun g23 => ?_))
    refine D_on [2, 3, 4, 5, 6, 7, 8, 9, 10, 11, 12, 13] rfl ?_
    refine D_one 4 _ rfl (by kernel_rfl) rfl (op_call0 (vs := [(.slice (some ⟨g23, 0, none⟩) 2 2)]) (cap := []) (fun w hw => sum_f [(Pt.mk B22 64 64 (hpad (shasum xs) (92#8))), (Pt.mk (some ⟨g19, 0, none⟩) 32 32 (shasum (hpad (shasum xs) 54#8 ++ catp Q)))] (some ⟨g23, 0, none⟩) 2 2 w (hok_cons ((src_full (z := 1) 0 rfl rfl sd sd) w hw) (hok_cons (all_cons ((src_old 1 rfl) w hw) (all_cons ((src_full (z := 1) 2 rfl sd sd sd) w hw) (all_nil w))) (hok_nil w))) sd (by first | assumption | omega | (simp [catp_cons, catp_nil]; done) | (simp [catp_cons, catp_nil]; omega)) sd) (enters_of Try.func17 (by kernel_rfl) rfl) rfl rfl rfl rfl rfl (fun t24 q25 => ?_))
    refine T_slot 32 (.agg ((shasum (catp [(Pt.mk B22 64 64 (hpad (shasum xs) (92#8))), (Pt.mk (some ⟨g19, 0, none⟩) 32 32 (shasum (hpad (shasum xs) 54#8 ++ catp Q)))])).map b8).toArray) (.agg ((shasum (hpad (shasum xs) 92#8 ++ (shasum (hpad (shasum xs) 54#8 ++ catp Q)))).map b8).toArray) rfl (by rw [catp_cons, catp_cons, catp_nil, List.append_nil]) ?_
    refine D_on [2, 3, 4, 5, 6, 7, 8, 9, 10, 11, 12, 13] rfl ?_
    refine D_one 5 _ rfl (by kernel_rfl) rfl (op_store (vs := ((shasum (hpad (shasum xs) 92#8 ++ (shasum (hpad (shasum xs) 54#8 ++ catp Q)))).map b8)) (cs' := ((shasum (hpad (shasum xs) 92#8 ++ (shasum (hpad (shasum xs) 54#8 ++ catp Q)))).map b8)) 10 rfl rfl (by rw [show (((shasum (hpad (shasum xs) 92#8 ++ (shasum (hpad (shasum xs) 54#8 ++ catp Q)))).map b8)).length = 32 from sd]; kernel_rfl) (all8_one _) (by have h1 : (((List.replicate 32 0#8).map b8)).length = 32 := (by kernel_rfl); have h2 : (((shasum (hpad (shasum xs) 92#8 ++ (shasum (hpad (shasum xs) 54#8 ++ catp Q)))).map b8)).length = 32 := sd; omega) (splice_all (Eq.trans (b := 32) (by kernel_rfl) (Eq.symm sd))) rfl rfl rfl rfl ?_)
    refine D_past (by kernel_rfl) ?_
    refine D_done (by kernel_rfl) ?_
    refine T_re [(4, (.pointer (some ⟨g1, 0, none⟩)))] (sc rfl sn) ?_
    refine T_he [0, 1, 2, 3, 4, 5, 6, 7, 8, 9, 10, 11, 12, 13] [.blk g1 26 ((shasum (hpad (shasum xs) 92#8 ++ (shasum (hpad (shasum xs) 54#8 ++ catp Q)))).map b8), .blk g23 24 [(.slice B22 64 64), (.slice (some ⟨g19, 0, none⟩) 32 32)], .old B22 1 64 64 ((hpad (shasum xs) (92#8)).map b8), .blk g19 26 ((shasum (hpad (shasum xs) 54#8 ++ catp Q)).map b8), .row (.slice A1 (1 + nq) c1) 24 1 (1 + nq) (([(Pt.mk B8 64 64 (hpad (shasum xs) (54#8)))] ++ Q).map Pt.sl), .obj D (.deferred (some [])), .rd B8 1 64 64 ((hpad (shasum xs) (54#8)).map b8), .rd (some ⟨g1_13, 0, none⟩) 1 1 1 [(.slice B nq d)], .blk g10 22 [(.slice A1 (1 + nq) c1)], .blk g5 26 ((shasum xs).map b8), .blk g2 24 [(.slice A n c)], .rd A 1 n c (xs.map b8), .rd B 1 nq d (Q.map Pt.sl), .all Q] ⟨by decide, rfl⟩ ?_
    refine T_ret ?_
    refine T_as 0 (.blk g1 26 ((shasum (hpad (shasum xs) 92#8 ++ (shasum (hpad (shasum xs) 54#8 ++ catp Q)))).map b8)) (.blk g1 26 ((mactag xs (catp Q)).map b8)) rfl (by rw [mactag_long xs (catp Q) (by omega)]) ?_
    exact T_finM 5 rfl () (by first | trivial | omega | (simp; done)) (resb 0 rfl rfl rfl Try.underlying26 rfl (by rw [show (((mactag xs (catp Q)).map b8)).length = 32 from sd]; kernel_rfl)) [] ⟨by decide, rfl⟩ rfl
  · exact fun D t hq => hq.elim
set_option maxHeartbeats 4000000 in
theorem rtag_s_f (xs : List (BitVec 8)) (A : Option Addr) (n : Nat) (c : Nat) (ts : List (BitVec 8)) (B : Option Addr) (nt : Nat) (d : Nat) (w : World) (hO : HOK [.rd A 1 n c (xs.map b8), .rd B 1 nt d (ts.map b8)] w) (hx : xs.length = n) (hn : n ≤ 64) (ht : ts.length = nt) (hnt : nt ≤ 900000000) : Calls Try.prog 28 [(.slice A n c), (.slice B nt d)].toArray w (Ret (T := Unit) [] w (fun _ => True) (fun _ => (.agg ((mactag xs ts).map b8).toArray)) (fun _ => [])) := by
  have hsl := shasum_len xs
  have hs1 := shasum_len (hpad xs 54#8 ++ ts)
  have hs2 := shasum_len (hpad xs 92#8 ++ (shasum (hpad xs 54#8 ++ ts)))
  have hp1 := hpad_len xs 54#8
  have hp2 := hpad_len xs 92#8
  have hml := mactag_len xs ts
  have hF : Wid Fence.wide := wid_wide
  refine enter (c := _) Try.func28 rfl [] [(.slice A n c), (.slice B nt d)] [.rd A 1 n c (xs.map b8), .rd B 1 nt d (ts.map b8)] (by rw [Try.ntmps28]; rfl) (own_rds hO rfl) ?_
  rw [Try.ntmps28]
  refine T_re [(0, (.slice A n c)), (1, (.slice B nt d))] (sc rfl (sc rfl sn)) ?_
  refine T_he [0, 1] [.rd A 1 n c (xs.map b8), .rd B 1 nt d (ts.map b8)] ⟨by decide, rfl⟩ ?_
  refine T_seq ?_
  refine T_reg hF rfl ?_
  refine L_op rfl (op_alloc (z := .agg ((List.replicate 32 0#8).map b8).toArray) (zs := ((List.replicate 32 0#8).map b8)) (by kernel_rfl) rfl rfl rfl rfl (fun g1 => ?_))
  refine L_nil ?_
  refine T_re [(0, (.slice A n c)), (1, (.slice B nt d)), (4, (.pointer (some ⟨g1, 0, none⟩)))] (sc rfl (sc rfl (sc rfl sn))) ?_
  refine T_he [0, 1, 2] [.blk g1 26 ((List.replicate 32 0#8).map b8), .rd A 1 n c (xs.map b8), .rd B 1 nt d (ts.map b8)] ⟨by decide, rfl⟩ ?_
  refine T_seq ?_
  refine T_seq ?_
  refine T_reg hF rfl ?_
  refine L_op rfl (op_pr (pr_move rfl rfl) rfl rfl ?_)
  refine L_op rfl (op_pr (pr_len_sl Try.underlying24 rfl rfl) rfl rfl ?_)
  refine L_op rfl (op_pr (pr_cmp (bo := .gtr) (nc_lt (a := 64) (b := n)) rfl rfl rfl rfl) rfl rfl ?_)
  refine L_nil ?_
  refine T_re [(0, (.slice A n c)), (1, (.slice B nt d)), (4, (.pointer (some ⟨g1, 0, none⟩))), (13, (.bool (decide (64 < n))))] (sc rfl (sc rfl (sc rfl (sc rfl sn)))) ?_
  refine T_he [0, 1, 2] [.blk g1 26 ((List.replicate 32 0#8).map b8), .rd A 1 n c (xs.map b8), .rd B 1 nt d (ts.map b8)] ⟨by decide, rfl⟩ ?_
  refine T_cond_no (t := decide (64 < n)) rfl (by simp; omega) ?_
  refine T_skip ?_
  refine T_seq ?_
  refine T_reg hF rfl ?_
  refine L_op rfl (op_make (z := (b8 (0#8))) (n := 64) (c := 64) Try.underlying24 (bytes := 1) (by kernel_rfl) rfl sd sd sd rfl rfl rfl rfl rfl (fun g2 => ?_))
  refine T_as 0 _ (.blk g2 5 ((List.replicate 64 0#8).map b8)) rfl (by rw [List.map_replicate]) ?_
  refine L_op rfl (op_pr (pr_assign rfl rfl) rfl rfl ?_)
  refine L_nil ?_
  refine T_re [(0, (.slice A n c)), (1, (.slice B nt d)), (4, (.pointer (some ⟨g1, 0, none⟩))), (6, (.slice (some ⟨g2, 0, none⟩) 64 64))] (sc rfl (sc rfl (sc rfl (sc rfl sn)))) ?_
  refine T_he [0, 1, 2, 3] [.blk g2 5 ((List.replicate 64 0#8).map b8), .blk g1 26 ((List.replicate 32 0#8).map b8), .rd A 1 n c (xs.map b8), .rd B 1 nt d (ts.map b8)] ⟨by decide, rfl⟩ ?_
  refine T_seq ?_
  refine T_reg hF rfl ?_
  refine L_op rfl (op_make (z := (b8 (0#8))) (n := 64) (c := 64) Try.underlying24 (bytes := 1) (by kernel_rfl) rfl sd sd sd rfl rfl rfl rfl rfl (fun g3 => ?_))
  refine T_as 0 _ (.blk g3 5 ((List.replicate 64 0#8).map b8)) rfl (by rw [List.map_replicate]) ?_
  refine L_op rfl (op_pr (pr_assign rfl rfl) rfl rfl ?_)
  refine L_nil ?_
  refine T_re [(0, (.slice A n c)), (1, (.slice B nt d)), (4, (.pointer (some ⟨g1, 0, none⟩))), (6, (.slice (some ⟨g2, 0, none⟩) 64 64)), (7, (.slice (some ⟨g3, 0, none⟩) 64 64))] (sc rfl (sc rfl (sc rfl (sc rfl (sc rfl sn))))) ?_
  refine T_he [0, 1, 2, 3, 4] [.blk g3 5 ((List.replicate 64 0#8).map b8), .blk g2 5 ((List.replicate 64 0#8).map b8), .blk g1 26 ((List.replicate 32 0#8).map b8), .rd A 1 n c (xs.map b8), .rd B 1 nt d (ts.map b8)] ⟨by decide, rfl⟩ ?_
  refine T_seq ?_
  refine T_seq ?_
  refine T_reg hF rfl ?_
  refine L_op rfl (op_pr (pr_assign rfl rfl) rfl rfl ?_)
  refine L_nil ?_
  refine T_re [(0, (.slice A n c)), (1, (.slice B nt d)), (4, (.pointer (some ⟨g1, 0, none⟩))), (6, (.slice (some ⟨g2, 0, none⟩) 64 64)), (7, (.slice (some ⟨g3, 0, none⟩) 64 64)), (8, (.int .i64 ((0 : Nat) : Int)))] (sc rfl (sc rfl (sc rfl (sc rfl (sc rfl (sc rfl sn)))))) ?_
  refine T_he [0, 1, 2, 3, 4] [.blk g3 5 ((List.replicate 64 0#8).map b8), .blk g2 5 ((List.replicate 64 0#8).map b8), .blk g1 26 ((List.replicate 32 0#8).map b8), .rd A 1 n c (xs.map b8), .rd B 1 nt d (ts.map b8)] ⟨by decide, rfl⟩ ?_
  refine T_block ?_
  refine T_as 0 (.blk g3 5 ((List.replicate 64 0#8).map b8)) (.blk g3 5 ((pre0 (hpad xs 92#8) 64 0).map b8)) rfl (by rw [← pre0_zero]) ?_
  refine T_as 1 (.blk g2 5 ((List.replicate 64 0#8).map b8)) (.blk g2 5 ((pre0 (hpad xs 54#8) 64 0).map b8)) rfl (by rw [← pre0_zero]) ?_
  refine T_loop (T := Nat) (fun i => i ≤ 64) (fun i => [(0, (.slice A n c)), (1, (.slice B nt d)), (4, (.pointer (some ⟨g1, 0, none⟩))), (6, (.slice (some ⟨g2, 0, none⟩) 64 64)), (7, (.slice (some ⟨g3, 0, none⟩) 64 64)), (8, (.int .i64 ((i : Nat) : Int)))]) (fun i => [.blk g3 5 ((pre0 (hpad xs 92#8) 64 i).map b8), .blk g2 5 ((pre0 (hpad xs 54#8) 64 i).map b8), .blk g1 26 ((List.replicate 32 0#8).map b8), .rd A 1 n c (xs.map b8), .rd B 1 nt d (ts.map b8)]) (fun i => 64 - i) 0 (by first | trivial | ((try dsimp only); first | omega | (refine ⟨?_, ?_⟩ <;> omega) | (refine ⟨?_, ?_, ?_⟩ <;> omega) | (simp; done) | (simp; omega))) (sc rfl (sc rfl (sc rfl (sc rfl (sc rfl (sc rfl sn)))))) [1, 0, 2, 3, 4] ⟨by decide, rfl⟩ ?_
  rintro i hp
  have hp : i ≤ 64 := hp
  have hq1 := pre0_len (hpad xs 54#8) 64 i hp1 hp
  have hq2 := pre0_len (hpad xs 92#8) 64 i hp2 hp
  refine T_re [(0, (.slice A n c)), (1, (.slice B nt d)), (4, (.pointer (some ⟨g1, 0, none⟩))), (6, (.slice (some ⟨g2, 0, none⟩) 64 64)), (7, (.slice (some ⟨g3, 0, none⟩) 64 64)), (8, (.int .i64 ((i : Nat) : Int)))] (sc rfl (sc rfl (sc rfl (sc rfl (sc rfl (sc rfl sn)))))) ?_
  refine T_he [0, 1, 2, 3, 4] [.blk g3 5 ((pre0 (hpad xs 92#8) 64 i).map b8), .blk g2 5 ((pre0 (hpad xs 54#8) 64 i).map b8), .blk g1 26 ((List.replicate 32 0#8).map b8), .rd A 1 n c (xs.map b8), .rd B 1 nt d (ts.map b8)] ⟨by decide, rfl⟩ ?_
  refine T_seq ?_
  refine T_seq ?_
  refine T_reg hF rfl ?_
  refine L_op rfl (op_pr (pr_move rfl rfl) rfl rfl ?_)
  refine L_op rfl (op_pr (pr_cmp (bo := .lss) (nc_lt (a := i) (b := 64)) rfl rfl rfl rfl) rfl rfl ?_)
  refine L_nil ?_
  refine T_re [(0, (.slice A n c)), (1, (.slice B nt d)), (4, (.pointer (some ⟨g1, 0, none⟩))), (6, (.slice (some ⟨g2, 0, none⟩) 64 64)), (7, (.slice (some ⟨g3, 0, none⟩) 64 64)), (8, (.int .i64 ((i : Nat) : Int))), (20, (.bool (decide (i < 64))))] (sc rfl (sc rfl (sc rfl (sc rfl (sc rfl (sc rfl (sc rfl sn))))))) ?_
  refine T_he [0, 1, 2, 3, 4] [.blk g3 5 ((pre0 (hpad xs 92#8) 64 i).map b8), .blk g2 5 ((pre0 (hpad xs 54#8) 64 i).map b8), .blk g1 26 ((List.replicate 32 0#8).map b8), .rd A 1 n c (xs.map b8), .rd B 1 nt d (ts.map b8)] ⟨by decide, rfl⟩ ?_
  refine T_cond (decide (i < 64)) rfl (fun hc_4 => ?_) (fun hc_4 => ?_)
  · skip
    have hc_4 := of_decide_eq_true hc_4
    refine T_skip ?_
    refine T_seq ?_
    refine T_block ?_
    refine T_seq ?_
    refine T_reg hF rfl ?_
    refine L_op rfl (op_pr (pr_assign rfl rfl) rfl rfl ?_)
    refine L_nil ?_
    refine T_re [(0, (.slice A n c)), (1, (.slice B nt d)), (4, (.pointer (some ⟨g1, 0, none⟩))), (6, (.slice (some ⟨g2, 0, none⟩) 64 64)), (7, (.slice (some ⟨g3, 0, none⟩) 64 64)), (8, (.int .i64 ((i : Nat) : Int))), (9, (b8 (0#8)))] (sc rfl (sc rfl (sc rfl (sc rfl (sc rfl (sc rfl (sc rfl sn))))))) ?_
    refine T_he [0, 1, 2, 3, 4] [.blk g3 5 ((pre0 (hpad xs 92#8) 64 i).map b8), .blk g2 5 ((pre0 (hpad xs 54#8) 64 i).map b8), .blk g1 26 ((List.replicate 32 0#8).map b8), .rd A 1 n c (xs.map b8), .rd B 1 nt d (ts.map b8)] ⟨by decide, rfl⟩ ?_
    refine T_seq ?_
    refine T_seq ?_
    refine T_reg hF rfl ?_
    refine L_op rfl (op_pr (pr_move rfl rfl) rfl rfl ?_)
    refine L_op rfl (op_pr (pr_move rfl rfl) rfl rfl ?_)
    refine L_op rfl (op_pr (pr_len_sl Try.underlying24 rfl rfl) rfl rfl ?_)
    refine L_op rfl (op_pr (pr_cmp (bo := .lss) (nc_lt (a := i) (b := n)) rfl rfl rfl rfl) rfl rfl ?_)
    refine L_nil ?_
    refine T_re [(0, (.slice A n c)), (1, (.slice B nt d)), (4, (.pointer (some ⟨g1, 0, none⟩))), (6, (.slice (some ⟨g2, 0, none⟩) 64 64)), (7, (.slice (some ⟨g3, 0, none⟩) 64 64)), (8, (.int .i64 ((i : Nat) : Int))), (9, (b8 (0#8))), (26, (.bool (decide (i < n))))] (sc rfl (sc rfl (sc rfl (sc rfl (sc rfl (sc rfl (sc rfl (sc rfl sn)))))))) ?_
    refine T_he [0, 1, 2, 3, 4] [.blk g3 5 ((pre0 (hpad xs 92#8) 64 i).map b8), .blk g2 5 ((pre0 (hpad xs 54#8) 64 i).map b8), .blk g1 26 ((List.replicate 32 0#8).map b8), .rd A 1 n c (xs.map b8), .rd B 1 nt d (ts.map b8)] ⟨by decide, rfl⟩ ?_
    refine T_cond (decide (i < n)) rfl (fun hc_5 => ?_) (fun hc_5 => ?_)
    · skip
      have hc_5 := of_decide_eq_true hc_5
      refine T_reg hF rfl ?_
      refine L_op rfl (op_pr (pr_move rfl rfl) rfl rfl ?_)
      refine L_op rfl (op_pr (pr_move rfl rfl) rfl rfl ?_)
      refine L_op rfl (op_pr (pr_ixs1 (j := i) (src_none (src_rd 3 rfl)) sd Try.underlying24 (by kernel_rfl) rfl rfl rfl) rfl rfl ?_)
      refine L_op rfl (op_ld (ld_src (m := i) (src_rd 3 rfl) (get8 sd) Try.underlying5 rfl rfl rfl) rfl rfl ?_)
      refine L_op rfl (op_pr (pr_assign rfl rfl) rfl rfl ?_)
      refine L_nil ?_
      refine T_re [(0, (.slice A n c)), (1, (.slice B nt d)), (4, (.pointer (some ⟨g1, 0, none⟩))), (6, (.slice (some ⟨g2, 0, none⟩) 64 64)), (7, (.slice (some ⟨g3, 0, none⟩) 64 64)), (8, (.int .i64 ((i : Nat) : Int))), (9, (b8 (ath xs i)))] (sc rfl (sc rfl (sc rfl (sc rfl (sc rfl (sc rfl (sc rfl sn))))))) ?_
      refine T_he [0, 1, 2, 3, 4] [.blk g3 5 ((pre0 (hpad xs 92#8) 64 i).map b8), .blk g2 5 ((pre0 (hpad xs 54#8) 64 i).map b8), .blk g1 26 ((List.replicate 32 0#8).map b8), .rd A 1 n c (xs.map b8), .rd B 1 nt d (ts.map b8)] ⟨by decide, rfl⟩ ?_
      refine T_reg hF rfl ?_
      refine L_op rfl (op_pr (pr_move rfl rfl) rfl rfl ?_)
      refine L_op rfl (op_pr (pr_move rfl rfl) rfl rfl ?_)
      refine L_op rfl (op_pr (pr_move rfl rfl) rfl rfl ?_)
      refine L_op rfl (op_pr (pr_move rfl rfl) rfl rfl ?_)
      refine L_op rfl (op_pr (pr_move rfl rfl) rfl rfl ?_)
      refine L_op rfl (op_pr (pr_xor (ib_xor8 _ (54#8)) rfl rfl rfl) rfl rfl ?_)
      refine L_op rfl (op_pr (pr_move rfl rfl) rfl rfl ?_)
      refine L_op rfl (op_pr (pr_xor (ib_xor8 _ (92#8)) rfl rfl rfl) rfl rfl ?_)
      refine L_op rfl (op_pr (pr_ixb (j := i) (m' := i) sd (by omega) Try.underlying24 (z := 1) (by kernel_rfl) rfl rfl rfl) rfl rfl ?_)
      refine L_op rfl (op_store (vs := [(b8 ((ath xs i) ^^^ 54#8))]) (cs' := ((List.set (pre0 (hpad xs 54#8) 64 i) i ((ath xs i) ^^^ 54#8)).map b8)) 1 rfl rfl (by kernel_rfl) (one_one rfl) (by have : i < ((pre0 (hpad xs 54#8) 64 i)).length := sd; simp only [List.length_map, List.length_singleton]; omega) (splice_map (f := b8) sd) rfl rfl rfl rfl ?_)
      refine L_op rfl (op_pr (pr_ixb (j := i) (m' := i) sd (by omega) Try.underlying24 (z := 1) (by kernel_rfl) rfl rfl rfl) rfl rfl ?_)
      refine L_op rfl (op_store (vs := [(b8 ((ath xs i) ^^^ 92#8))]) (cs' := ((List.set (pre0 (hpad xs 92#8) 64 i) i ((ath xs i) ^^^ 92#8)).map b8)) 1 rfl rfl (by kernel_rfl) (one_one rfl) (by have : i < ((pre0 (hpad xs 92#8) 64 i)).length := sd; simp only [List.length_map, List.length_singleton]; omega) (splice_map (f := b8) sd) rfl rfl rfl rfl ?_)
      refine L_nil ?_
      refine T_re [(0, (.slice A n c)), (1, (.slice B nt d)), (4, (.pointer (some ⟨g1, 0, none⟩))), (6, (.slice (some ⟨g2, 0, none⟩) 64 64)), (7, (.slice (some ⟨g3, 0, none⟩) 64 64)), (8, (.int .i64 ((i : Nat) : Int)))] (sc rfl (sc rfl (sc rfl (sc rfl (sc rfl (sc rfl sn)))))) ?_
      refine T_he [0, 1, 2, 3, 4] [.blk g3 5 ((List.set (pre0 (hpad xs 92#8) 64 i) i ((ath xs i) ^^^ 92#8)).map b8), .blk g2 5 ((List.set (pre0 (hpad xs 54#8) 64 i) i ((ath xs i) ^^^ 54#8)).map b8), .blk g1 26 ((List.replicate 32 0#8).map b8), .rd A 1 n c (xs.map b8), .rd B 1 nt d (ts.map b8)] ⟨by decide, rfl⟩ ?_
      refine T_reg hF rfl ?_
      refine L_op rfl (op_pr (pr_move rfl rfl) rfl rfl ?_)
      refine L_op rfl (op_pr (pr_add (na_i64 (a := i) (b := 1) sd) rfl rfl rfl) rfl rfl ?_)
      refine L_op rfl (op_pr (pr_assign rfl rfl) rfl rfl ?_)
      refine L_nil ?_
      refine T_re [(0, (.slice A n c)), (1, (.slice B nt d)), (4, (.pointer (some ⟨g1, 0, none⟩))), (6, (.slice (some ⟨g2, 0, none⟩) 64 64)), (7, (.slice (some ⟨g3, 0, none⟩) 64 64)), (8, (.int .i64 ((i + 1 : Nat) : Int)))] (sc rfl (sc rfl (sc rfl (sc rfl (sc rfl (sc rfl sn)))))) ?_
      refine T_he [0, 1, 2, 3, 4] [.blk g3 5 ((List.set (pre0 (hpad xs 92#8) 64 i) i ((ath xs i) ^^^ 92#8)).map b8), .blk g2 5 ((List.set (pre0 (hpad xs 54#8) 64 i) i ((ath xs i) ^^^ 54#8)).map b8), .blk g1 26 ((List.replicate 32 0#8).map b8), .rd A 1 n c (xs.map b8), .rd B 1 nt d (ts.map b8)] ⟨by decide, rfl⟩ ?_
      refine T_as 0 (.blk g3 5 ((List.set (pre0 (hpad xs 92#8) 64 i) i ((ath xs i) ^^^ 92#8)).map b8)) (.blk g3 5 ((pre0 (hpad xs 92#8) 64 (i + 1)).map b8)) rfl (by rw [hpre_set _ _ _ i (by omega) (by first | rfl | (rw [ath_out _ _ (by omega)]))]) ?_
      refine T_as 1 (.blk g2 5 ((List.set (pre0 (hpad xs 54#8) 64 i) i ((ath xs i) ^^^ 54#8)).map b8)) (.blk g2 5 ((pre0 (hpad xs 54#8) 64 (i + 1)).map b8)) rfl (by rw [hpre_set _ _ _ i (by omega) (by first | rfl | (rw [ath_out _ _ (by omega)]))]) ?_
      exact T_again (i + 1) (by first | trivial | ((try dsimp only); first | omega | (refine ⟨?_, ?_⟩ <;> omega) | (refine ⟨?_, ?_, ?_⟩ <;> omega) | (simp; done) | (simp; omega))) (by first | trivial | ((try dsimp only); first | omega | (refine ⟨?_, ?_⟩ <;> omega) | (refine ⟨?_, ?_, ?_⟩ <;> omega) | (simp; done) | (simp; omega))) (sc rfl (sc rfl (sc rfl (sc rfl (sc rfl (sc rfl sn)))))) [1, 0, 2, 3, 4] ⟨by decide, rfl⟩
    · skip
      have hc_5 := of_decide_eq_false hc_5
      refine T_skip ?_
      refine T_reg hF rfl ?_
      refine L_op rfl (op_pr (pr_move rfl rfl) rfl rfl ?_)
      refine L_op rfl (op_pr (pr_move rfl rfl) rfl rfl ?_)
      refine L_op rfl (op_pr (pr_move rfl rfl) rfl rfl ?_)
      refine L_op rfl (op_pr (pr_move rfl rfl) rfl rfl ?_)
      refine L_op rfl (op_pr (pr_move rfl rfl) rfl rfl ?_)
      refine L_op rfl (op_pr (pr_xor (ib_xor8 _ (54#8)) rfl rfl rfl) rfl rfl ?_)
      refine L_op rfl (op_pr (pr_move rfl rfl) rfl rfl ?_)
      refine L_op rfl (op_pr (pr_xor (ib_xor8 _ (92#8)) rfl rfl rfl) rfl rfl ?_)
      refine L_op rfl (op_pr (pr_ixb (j := i) (m' := i) sd (by omega) Try.underlying24 (z := 1) (by kernel_rfl) rfl rfl rfl) rfl rfl ?_)
      refine L_op rfl (op_store (vs := [(b8 (0#8 ^^^ 54#8))]) (cs' := ((List.set (pre0 (hpad xs 54#8) 64 i) i (0#8 ^^^ 54#8)).map b8)) 1 rfl rfl (by kernel_rfl) (one_one rfl) (by have : i < ((pre0 (hpad xs 54#8) 64 i)).length := sd; simp only [List.length_map, List.length_singleton]; omega) (splice_map (f := b8) sd) rfl rfl rfl rfl ?_)
      refine L_op rfl (op_pr (pr_ixb (j := i) (m' := i) sd (by omega) Try.underlying24 (z := 1) (by kernel_rfl) rfl rfl rfl) rfl rfl ?_)
      refine L_op rfl (op_store (vs := [(b8 (0#8 ^^^ 92#8))]) (cs' := ((List.set (pre0 (hpad xs 92#8) 64 i) i (0#8 ^^^ 92#8)).map b8)) 1 rfl rfl (by kernel_rfl) (one_one rfl) (by have : i < ((pre0 (hpad xs 92#8) 64 i)).length := sd; simp only [List.length_map, List.length_singleton]; omega) (splice_map (f := b8) sd) rfl rfl rfl rfl ?_)
      refine L_nil ?_
      refine T_re [(0, (.slice A n c)), (1, (.slice B nt d)), (4, (.pointer (some ⟨g1, 0, none⟩))), (6, (.slice (some ⟨g2, 0, none⟩) 64 64)), (7, (.slice (some ⟨g3, 0, none⟩) 64 64)), (8, (.int .i64 ((i : Nat) : Int)))] (sc rfl (sc rfl (sc rfl (sc rfl (sc rfl (sc rfl sn)))))) ?_
      refine T_he [0, 1, 2, 3, 4] [.blk g3 5 ((List.set (pre0 (hpad xs 92#8) 64 i) i (0#8 ^^^ 92#8)).map b8), .blk g2 5 ((List.set (pre0 (hpad xs 54#8) 64 i) i (0#8 ^^^ 54#8)).map b8), .blk g1 26 ((List.replicate 32 0#8).map b8), .rd A 1 n c (xs.map b8), .rd B 1 nt d (ts.map b8)] ⟨by decide, rfl⟩ ?_
      refine T_reg hF rfl ?_
      refine L_op rfl (op_pr (pr_move rfl rfl) rfl rfl ?_)
      refine L_op rfl (op_pr (pr_add (na_i64 (a := i) (b := 1) sd) rfl rfl rfl) rfl rfl ?_)
      refine L_op rfl (op_pr (pr_assign rfl rfl) rfl rfl ?_)
      refine L_nil ?_
      refine T_re [(0, (.slice A n c)), (1, (.slice B nt d)), (4, (.pointer (some ⟨g1, 0, none⟩))), (6, (.slice (some ⟨g2, 0, none⟩) 64 64)), (7, (.slice (some ⟨g3, 0, none⟩) 64 64)), (8, (.int .i64 ((i + 1 : Nat) : Int)))] (sc rfl (sc rfl (sc rfl (sc rfl (sc rfl (sc rfl sn)))))) ?_
      refine T_he [0, 1, 2, 3, 4] [.blk g3 5 ((List.set (pre0 (hpad xs 92#8) 64 i) i (0#8 ^^^ 92#8)).map b8), .blk g2 5 ((List.set (pre0 (hpad xs 54#8) 64 i) i (0#8 ^^^ 54#8)).map b8), .blk g1 26 ((List.replicate 32 0#8).map b8), .rd A 1 n c (xs.map b8), .rd B 1 nt d (ts.map b8)] ⟨by decide, rfl⟩ ?_
      refine T_as 0 (.blk g3 5 ((List.set (pre0 (hpad xs 92#8) 64 i) i (0#8 ^^^ 92#8)).map b8)) (.blk g3 5 ((pre0 (hpad xs 92#8) 64 (i + 1)).map b8)) rfl (by rw [hpre_set _ _ _ i (by omega) (by first | rfl | (rw [ath_out _ _ (by omega)]))]) ?_
      refine T_as 1 (.blk g2 5 ((List.set (pre0 (hpad xs 54#8) 64 i) i (0#8 ^^^ 54#8)).map b8)) (.blk g2 5 ((pre0 (hpad xs 54#8) 64 (i + 1)).map b8)) rfl (by rw [hpre_set _ _ _ i (by omega) (by first | rfl | (rw [ath_out _ _ (by omega)]))]) ?_
      exact T_again (i + 1) (by first | trivial | ((try dsimp only); first | omega | (refine ⟨?_, ?_⟩ <;> omega) | (refine ⟨?_, ?_, ?_⟩ <;> omega) | (simp; done) | (simp; omega))) (by first | trivial | ((try dsimp only); first | omega | (refine ⟨?_, ?_⟩ <;> omega) | (refine ⟨?_, ?_, ?_⟩ <;> omega) | (simp; done) | (simp; omega))) (sc rfl (sc rfl (sc rfl (sc rfl (sc rfl (sc rfl sn)))))) [1, 0, 2, 3, 4] ⟨by decide, rfl⟩
  · skip
    have hc_4 := of_decide_eq_false hc_4
    refine T_exit rfl ?_
    obtain rfl : 64 = i := by omega
    refine T_as 0 (.blk g3 5 ((pre0 (hpad xs 92#8) 64 64).map b8)) (.blk g3 5 (((hpad xs 92#8)).map b8)) rfl (by rw [pre0_all _ _ (by assumption)]) ?_
    refine T_as 1 (.blk g2 5 ((pre0 (hpad xs 54#8) 64 64).map b8)) (.blk g2 5 (((hpad xs 54#8)).map b8)) rfl (by rw [pre0_all _ _ (by assumption)]) ?_
    refine T_seq ?_
    refine T_reg hF rfl ?_
    refine L_op rfl (op_pr (pr_move rfl rfl) rfl rfl ?_)
    refine L_op rfl (op_pr (pr_move rfl rfl) rfl rfl ?_)
    refine T_rowb 0 (zs := (((hpad xs 54#8)).map b8)) 1 64 64 rfl sd sd sd (by rw [List.take_of_length_le sd]) ?_
    refine L_op rfl (op_append (z := (b8 (0#8))) (size := 1) (bytes := 1) 0 rfl Try.underlying24 (by kernel_rfl) (by kernel_rfl) (by decide) (src_rd 4 rfl) (all8_one _) sd sd rfl rfl rfl rfl rfl (fun A6 C7 => ?_))
    refine T_as 0 (.row (.slice A6 (64 + nt) C7) 5 1 (64 + nt) ((((hpad xs 54#8)).map b8) ++ (ts.map b8))) (.row (.slice A6 (64 + nt) C7) 5 1 (64 + nt) ((((hpad xs 54#8)) ++ ts).map b8)) rfl (by first | rfl | (congr 1; simp; done) | (simp only [List.map_append]; rfl) | (rw [List.map_append]; rfl)) ?_
    refine L_op rfl (op_call0 (vs := [(.slice A6 (64 + nt) C7)]) (cap := []) (fun w hw => rsum_f (((hpad xs 54#8)) ++ ts) A6 (64 + nt) C7 w (hok_cons ((src_row 0 rfl) w hw) (hok_nil w)) (by first | assumption | omega | (simp; done) | (simp; omega)) sd) (enters_of Try.func18 (by kernel_rfl) rfl) rfl rfl rfl rfl rfl (fun t8 q9 => ?_))
    refine L_op rfl (op_alloc (z := .agg ((List.replicate 32 0#8).map b8).toArray) (zs := ((List.replicate 32 0#8).map b8)) (by kernel_rfl) rfl rfl rfl rfl (fun g10 => ?_))
    refine L_op rfl (op_store (vs := ((shasum (((hpad xs 54#8)) ++ ts)).map b8)) (cs' := ((shasum (((hpad xs 54#8)) ++ ts)).map b8)) 0 rfl rfl (by rw [show (((shasum (((hpad xs 54#8)) ++ ts)).map b8)).length = 32 from sd]; kernel_rfl) (all8_one _) (by have h1 : (((List.replicate 32 0#8).map b8)).length = 32 := (by kernel_rfl); have h2 : (((shasum (((hpad xs 54#8)) ++ ts)).map b8)).length = 32 := sd; omega) (splice_all (Eq.trans (b := 32) (by kernel_rfl) (Eq.symm sd))) rfl rfl rfl rfl ?_)
    refine L_nil ?_
    refine T_re [(4, (.pointer (some ⟨g1, 0, none⟩))), (7, (.slice (some ⟨g3, 0, none⟩) 64 64)), (10, (.pointer (some ⟨g10, 0, none⟩)))] (sc rfl (sc rfl (sc rfl sn))) ?_
    refine T_he [0, 1, 2, 3, 4, 5] [.blk g10 26 ((shasum (((hpad xs 54#8)) ++ ts)).map b8), .row (.slice A6 (64 + nt) C7) 5 1 (64 + nt) ((((hpad xs 54#8)) ++ ts).map b8), .blk g3 5 (((hpad xs 92#8)).map b8), .blk g1 26 ((List.replicate 32 0#8).map b8), .rd A 1 n c (xs.map b8), .rd B 1 nt d (ts.map b8)] ⟨by decide, rfl⟩ ?_
    refine T_seq ?_
    refine T_reg hF rfl ?_
    refine L_op rfl (op_pr (pr_move rfl rfl) rfl rfl ?_)
    refine L_op rfl (op_pr (pr_sla (l := 0) (u := 32) (m := 0) sd sd sd rfl Try.underlying26 (z := 1) (by kernel_rfl) rfl rfl rfl rfl) rfl rfl ?_)
    refine T_rowb 2 (zs := (((hpad xs 92#8)).map b8)) 1 64 64 rfl sd sd sd (by rw [List.take_of_length_le sd]) ?_
    refine L_op rfl (op_append (z := (b8 (0#8))) (size := 1) (bytes := 1) 0 rfl Try.underlying24 (by kernel_rfl) (by kernel_rfl) (by decide) (src_full (z := 1) 1 rfl sd sd sd) (all8_one _) sd sd rfl rfl rfl rfl rfl (fun A11 C12 => ?_))
    refine T_as 0 (.row (.slice A11 (64 + 32) C12) 5 1 (64 + 32) ((((hpad xs 92#8)).map b8) ++ ((shasum (((hpad xs 54#8)) ++ ts)).map b8))) (.row (.slice A11 96 C12) 5 1 96 ((((hpad xs 92#8)) ++ (shasum (((hpad xs 54#8)) ++ ts))).map b8)) rfl (by first | rfl | (congr 1; simp; done) | (simp only [List.map_append]; rfl) | (rw [List.map_append]; rfl)) ?_
    refine T_slot 47 (.slice A11 (64 + 32) C12) (.slice A11 96 C12) rfl rfl ?_
    refine L_op rfl (op_call0 (vs := [(.slice A11 96 C12)]) (cap := []) (fun w hw => rsum_f (((hpad xs 92#8)) ++ (shasum (((hpad xs 54#8)) ++ ts))) A11 96 C12 w (hok_cons ((src_row 0 rfl) w hw) (hok_nil w)) (by first | assumption | omega | (simp; done) | (simp; omega)) sd) (enters_of Try.func18 (by kernel_rfl) rfl) rfl rfl rfl rfl rfl (fun t13 q14 => ?_))
    refine L_op rfl (op_store (vs := ((shasum (((hpad xs 92#8)) ++ (shasum (((hpad xs 54#8)) ++ ts)))).map b8)) (cs' := ((shasum (((hpad xs 92#8)) ++ (shasum (((hpad xs 54#8)) ++ ts)))).map b8)) 3 rfl rfl (by rw [show (((shasum (((hpad xs 92#8)) ++ (shasum (((hpad xs 54#8)) ++ ts)))).map b8)).length = 32 from sd]; kernel_rfl) (all8_one _) (by have h1 : (((List.replicate 32 0#8).map b8)).length = 32 := (by kernel_rfl); have h2 : (((shasum (((hpad xs 92#8)) ++ (shasum (((hpad xs 54#8)) ++ ts)))).map b8)).length = 32 := sd; omega) (splice_all (Eq.trans (b := 32) (by kernel_rfl) (Eq.symm sd))) rfl rfl rfl rfl ?_)
    refine L_nil ?_
    refine T_re [(4, (.pointer (some ⟨g1, 0, none⟩)))] (sc rfl sn) ?_
    refine T_he [0, 1, 2, 3, 4, 5] [.blk g1 26 ((shasum (((hpad xs 92#8)) ++ (shasum (((hpad xs 54#8)) ++ ts)))).map b8), .row (.slice A11 96 C12) 5 1 96 ((((hpad xs 92#8)) ++ (shasum (((hpad xs 54#8)) ++ ts))).map b8), .blk g10 26 ((shasum (((hpad xs 54#8)) ++ ts)).map b8), .row (.slice A6 (64 + nt) C7) 5 1 (64 + nt) ((((hpad xs 54#8)) ++ ts).map b8), .rd A 1 n c (xs.map b8), .rd B 1 nt d (ts.map b8)] ⟨by decide, rfl⟩ ?_
    refine T_ret ?_
    refine T_as 0 (.blk g1 26 ((shasum (((hpad xs 92#8)) ++ (shasum (((hpad xs 54#8)) ++ ts)))).map b8)) (.blk g1 26 ((mactag xs ts).map b8)) rfl (by rw [mactag_short xs ts (by omega)]) ?_
    exact T_fin () (by first | trivial | omega | (simp; done)) (resb 0 rfl rfl rfl Try.underlying26 rfl (by rw [show (((mactag xs ts).map b8)).length = 32 from sd]; kernel_rfl)) [] ⟨by decide, rfl⟩ rfl
set_option maxHeartbeats 4000000 in
theorem rtag_l_f (xs : List (BitVec 8)) (A : Option Addr) (n : Nat) (c : Nat) (ts : List (BitVec 8)) (B : Option Addr) (nt : Nat) (d : Nat) (w : World) (hO : HOK [.rd A 1 n c (xs.map b8), .rd B 1 nt d (ts.map b8)] w) (hx : xs.length = n) (hn : 64 < n ∧ n ≤ 900000000) (ht : ts.length = nt) (hnt : nt ≤ 900000000) : Calls Try.prog 28 [(.slice A n c), (.slice B nt d)].toArray w (Ret (T := Unit) [] w (fun _ => True) (fun _ => (.agg ((mactag xs ts).map b8).toArray)) (fun _ => [])) := by
  have hsl := shasum_len xs
  have hs1 := shasum_len (hpad (shasum xs) 54#8 ++ ts)
  have hs2 := shasum_len (hpad (shasum xs) 92#8 ++ (shasum (hpad (shasum xs) 54#8 ++ ts)))
  have hp1 := hpad_len (shasum xs) 54#8
  have hp2 := hpad_len (shasum xs) 92#8
  have hml := mactag_len xs ts
  have hF : Wid Fence.wide := wid_wide
  refine enter (c := _) Try.func28 rfl [] [(.slice A n c), (.slice B nt d)] [.rd A 1 n c (xs.map b8), .rd B 1 nt d (ts.map b8)] (by rw [Try.ntmps28]; rfl) (own_rds hO rfl) ?_
  rw [Try.ntmps28]
  refine T_re [(0, (.slice A n c)), (1, (.slice B nt d))] (sc rfl (sc rfl sn)) ?_
  refine T_he [0, 1] [.rd A 1 n c (xs.map b8), .rd B 1 nt d (ts.map b8)] ⟨by decide, rfl⟩ ?_
  refine T_seq ?_
  refine T_reg hF rfl ?_
  refine L_op rfl (op_alloc (z := .agg ((List.replicate 32 0#8).map b8).toArray) (zs := ((List.replicate 32 0#8).map b8)) (by kernel_rfl) rfl rfl rfl rfl (fun g1 => ?_))
  refine L_nil ?_
  refine T_re [(0, (.slice A n c)), (1, (.slice B nt d)), (4, (.pointer (some ⟨g1, 0, none⟩)))] (sc rfl (sc rfl (sc rfl sn))) ?_
  refine T_he [0, 1, 2] [.blk g1 26 ((List.replicate 32 0#8).map b8), .rd A 1 n c (xs.map b8), .rd B 1 nt d (ts.map b8)] ⟨by decide, rfl⟩ ?_
  refine T_seq ?_
  refine T_seq ?_
  refine T_reg hF rfl ?_
  refine L_op rfl (op_pr (pr_move rfl rfl) rfl rfl ?_)
  refine L_op rfl (op_pr (pr_len_sl Try.underlying24 rfl rfl) rfl rfl ?_)
  refine L_op rfl (op_pr (pr_cmp (bo := .gtr) (nc_lt (a := 64) (b := n)) rfl rfl rfl rfl) rfl rfl ?_)
  refine L_nil ?_
  refine T_re [(0, (.slice A n c)), (1, (.slice B nt d)), (4, (.pointer (some ⟨g1, 0, none⟩))), (13, (.bool (decide (64 < n))))] (sc rfl (sc rfl (sc rfl (sc rfl sn)))) ?_
  refine T_he [0, 1, 2] [.blk g1 26 ((List.replicate 32 0#8).map b8), .rd A 1 n c (xs.map b8), .rd B 1 nt d (ts.map b8)] ⟨by decide, rfl⟩ ?_
  refine T_cond_yes (t := decide (64 < n)) rfl (by simp; omega) ?_
  refine T_seq ?_
  refine T_reg hF rfl ?_
  refine L_op rfl (op_pr (pr_move rfl rfl) rfl rfl ?_)
  refine L_op rfl (op_call0 (vs := [(.slice A n c)]) (cap := []) (fun w hw => rsum_f xs A n c w (hok_cons ((src_rd 1 rfl) w hw) (hok_nil w)) (by first | assumption | omega | (simp; done) | (simp; omega)) sd) (enters_of Try.func18 (by kernel_rfl) rfl) rfl rfl rfl rfl rfl (fun t2 q3 => ?_))
  refine L_op rfl (op_alloc (z := .agg ((List.replicate 32 0#8).map b8).toArray) (zs := ((List.replicate 32 0#8).map b8)) (by kernel_rfl) rfl rfl rfl rfl (fun g4 => ?_))
  refine L_op rfl (op_store (vs := ((shasum xs).map b8)) (cs' := ((shasum xs).map b8)) 0 rfl rfl (by rw [show (((shasum xs).map b8)).length = 32 from sd]; kernel_rfl) (all8_one _) (by have h1 : (((List.replicate 32 0#8).map b8)).length = 32 := (by kernel_rfl); have h2 : (((shasum xs).map b8)).length = 32 := sd; omega) (splice_all (Eq.trans (b := 32) (by kernel_rfl) (Eq.symm sd))) rfl rfl rfl rfl ?_)
  refine L_nil ?_
  refine T_re [(1, (.slice B nt d)), (4, (.pointer (some ⟨g1, 0, none⟩))), (5, (.pointer (some ⟨g4, 0, none⟩)))] (sc rfl (sc rfl (sc rfl sn))) ?_
  refine T_he [0, 1, 2, 3] [.blk g4 26 ((shasum xs).map b8), .blk g1 26 ((List.replicate 32 0#8).map b8), .rd A 1 n c (xs.map b8), .rd B 1 nt d (ts.map b8)] ⟨by decide, rfl⟩ ?_
  refine T_reg hF rfl ?_
  refine L_op rfl (op_pr (pr_sla (l := 0) (u := 32) (m := 0) sd sd sd rfl Try.underlying26 (z := 1) (by kernel_rfl) rfl rfl rfl rfl) rfl rfl ?_)
  refine L_op rfl (op_pr (pr_assign rfl rfl) rfl rfl ?_)
  refine L_nil ?_
  refine T_re [(0, (.slice (some ⟨g4, 0, none⟩) 32 32)), (1, (.slice B nt d)), (4, (.pointer (some ⟨g1, 0, none⟩)))] (sc rfl (sc rfl (sc rfl sn))) ?_
  refine T_he [0, 1, 2, 3] [.blk g4 26 ((shasum xs).map b8), .blk g1 26 ((List.replicate 32 0#8).map b8), .rd A 1 n c (xs.map b8), .rd B 1 nt d (ts.map b8)] ⟨by decide, rfl⟩ ?_
  refine T_seq ?_
  refine T_reg hF rfl ?_
  refine L_op rfl (op_make (z := (b8 (0#8))) (n := 64) (c := 64) Try.underlying24 (bytes := 1) (by kernel_rfl) rfl sd sd sd rfl rfl rfl rfl rfl (fun g5 => ?_))
  refine T_as 0 _ (.blk g5 5 ((List.replicate 64 0#8).map b8)) rfl (by rw [List.map_replicate]) ?_
  refine L_op rfl (op_pr (pr_assign rfl rfl) rfl rfl ?_)
  refine L_nil ?_
  refine T_re [(0, (.slice (some ⟨g4, 0, none⟩) 32 32)), (1, (.slice B nt d)), (4, (.pointer (some ⟨g1, 0, none⟩))), (6, (.slice (some ⟨g5, 0, none⟩) 64 64))] (sc rfl (sc rfl (sc rfl (sc rfl sn)))) ?_
  refine T_he [0, 1, 2, 3, 4] [.blk g5 5 ((List.replicate 64 0#8).map b8), .blk g4 26 ((shasum xs).map b8), .blk g1 26 ((List.replicate 32 0#8).map b8), .rd A 1 n c (xs.map b8), .rd B 1 nt d (ts.map b8)] ⟨by decide, rfl⟩ ?_
  refine T_seq ?_
  refine T_reg hF rfl ?_
  refine L_op rfl (op_make (z := (b8 (0#8))) (n := 64) (c := 64) Try.underlying24 (bytes := 1) (by kernel_rfl) rfl sd sd sd rfl rfl rfl rfl rfl (fun g6 => ?_))
  refine T_as 0 _ (.blk g6 5 ((List.replicate 64 0#8).map b8)) rfl (by rw [List.map_replicate]) ?_
  refine L_op rfl (op_pr (pr_assign rfl rfl) rfl rfl ?_)
  refine L_nil ?_
  refine T_re [(0, (.slice (some ⟨g4, 0, none⟩) 32 32)), (1, (.slice B nt d)), (4, (.pointer (some ⟨g1, 0, none⟩))), (6, (.slice (some ⟨g5, 0, none⟩) 64 64)), (7, (.slice (some ⟨g6, 0, none⟩) 64 64))] (sc rfl (sc rfl (sc rfl (sc rfl (sc rfl sn))))) ?_
  refine T_he [0, 1, 2, 3, 4, 5] [.blk g6 5 ((List.replicate 64 0#8).map b8), .blk g5 5 ((List.replicate 64 0#8).map b8), .blk g4 26 ((shasum xs).map b8), .blk g1 26 ((List.replicate 32 0#8).map b8), .rd A 1 n c (xs.map b8), .rd B 1 nt d (ts.map b8)] ⟨by decide, rfl⟩ ?_
  refine T_seq ?_
  refine T_seq ?_
  refine T_reg hF rfl ?_
  refine L_op rfl (op_pr (pr_assign rfl rfl) rfl rfl ?_)
  refine L_nil ?_
  refine T_re [(0, (.slice (some ⟨g4, 0, none⟩) 32 32)), (1, (.slice B nt d)), (4, (.pointer (some ⟨g1, 0, none⟩))), (6, (.slice (some ⟨g5, 0, none⟩) 64 64)), (7, (.slice (some ⟨g6, 0, none⟩) 64 64)), (8, (.int .i64 ((0 : Nat) : Int)))] (sc rfl (sc rfl (sc rfl (sc rfl (sc rfl (sc rfl sn)))))) ?_
  refine T_he [0, 1, 2, 3, 4, 5] [.blk g6 5 ((List.replicate 64 0#8).map b8), .blk g5 5 ((List.replicate 64 0#8).map b8), .blk g4 26 ((shasum xs).map b8), .blk g1 26 ((List.replicate 32 0#8).map b8), .rd A 1 n c (xs.map b8), .rd B 1 nt d (ts.map b8)] ⟨by decide, rfl⟩ ?_
  refine T_block ?_
  refine T_as 0 (.blk g6 5 ((List.replicate 64 0#8).map b8)) (.blk g6 5 ((pre0 (hpad (shasum xs) 92#8) 64 0).map b8)) rfl (by rw [← pre0_zero]) ?_
  refine T_as 1 (.blk g5 5 ((List.replicate 64 0#8).map b8)) (.blk g5 5 ((pre0 (hpad (shasum xs) 54#8) 64 0).map b8)) rfl (by rw [← pre0_zero]) ?_
  refine T_loop (T := Nat) (fun i => i ≤ 64) (fun i => [(0, (.slice (some ⟨g4, 0, none⟩) 32 32)), (1, (.slice B nt d)), (4, (.pointer (some ⟨g1, 0, none⟩))), (6, (.slice (some ⟨g5, 0, none⟩) 64 64)), (7, (.slice (some ⟨g6, 0, none⟩) 64 64)), (8, (.int .i64 ((i : Nat) : Int)))]) (fun i => [.blk g6 5 ((pre0 (hpad (shasum xs) 92#8) 64 i).map b8), .blk g5 5 ((pre0 (hpad (shasum xs) 54#8) 64 i).map b8), .blk g4 26 ((shasum xs).map b8), .blk g1 26 ((List.replicate 32 0#8).map b8), .rd A 1 n c (xs.map b8), .rd B 1 nt d (ts.map b8)]) (fun i => 64 - i) 0 (by first | trivial | ((try dsimp only); first | omega | (refine ⟨?_, ?_⟩ <;> omega) | (refine ⟨?_, ?_, ?_⟩ <;> omega) | (simp; done) | (simp; omega))) (sc rfl (sc rfl (sc rfl (sc rfl (sc rfl (sc rfl sn)))))) [1, 0, 2, 3, 4, 5] ⟨by decide, rfl⟩ ?_
  rintro i hp
  have hp : i ≤ 64 := hp
  have hq1 := pre0_len (hpad (shasum xs) 54#8) 64 i hp1 hp
  have hq2 := pre0_len (hpad (shasum xs) 92#8) 64 i hp2 hp
  refine T_re [(0, (.slice (some ⟨g4, 0, none⟩) 32 32)), (1, (.slice B nt d)), (4, (.pointer (some ⟨g1, 0, none⟩))), (6, (.slice (some ⟨g5, 0, none⟩) 64 64)), (7, (.slice (some ⟨g6, 0, none⟩) 64 64)), (8, (.int .i64 ((i : Nat) : Int)))] (sc rfl (sc rfl (sc rfl (sc rfl (sc rfl (sc rfl sn)))))) ?_
  refine T_he [0, 1, 2, 3, 4, 5] [.blk g6 5 ((pre0 (hpad (shasum xs) 92#8) 64 i).map b8), .blk g5 5 ((pre0 (hpad (shasum xs) 54#8) 64 i).map b8), .blk g4 26 ((shasum xs).map b8), .blk g1 26 ((List.replicate 32 0#8).map b8), .rd A 1 n c (xs.map b8), .rd B 1 nt d (ts.map b8)] ⟨by decide, rfl⟩ ?_
  refine T_seq ?_
  refine T_seq ?_
  refine T_reg hF rfl ?_
  refine L_op rfl (op_pr (pr_move rfl rfl) rfl rfl ?_)
  refine L_op rfl (op_pr (pr_cmp (bo := .lss) (nc_lt (a := i) (b := 64)) rfl rfl rfl rfl) rfl rfl ?_)
  refine L_nil ?_
  refine T_re [(0, (.slice (some ⟨g4, 0, none⟩) 32 32)), (1, (.slice B nt d)), (4, (.pointer (some ⟨g1, 0, none⟩))), (6, (.slice (some ⟨g5, 0, none⟩) 64 64)), (7, (.slice (some ⟨g6, 0, none⟩) 64 64)), (8, (.int .i64 ((i : Nat) : Int))), (20, (.bool (decide (i < 64))))] (sc rfl (sc rfl (sc rfl (sc rfl (sc rfl (sc rfl (sc rfl sn))))))) ?_
  refine T_he [0, 1, 2, 3, 4, 5] [.blk g6 5 ((pre0 (hpad (shasum xs) 92#8) 64 i).map b8), .blk g5 5 ((pre0 (hpad (shasum xs) 54#8) 64 i).map b8), .blk g4 26 ((shasum xs).map b8), .blk g1 26 ((List.replicate 32 0#8).map b8), .rd A 1 n c (xs.map b8), .rd B 1 nt d (ts.map b8)] ⟨by decide, rfl⟩ ?_
  refine T_cond (decide (i < 64)) rfl (fun hc_7 => ?_) (fun hc_7 => ?_)
  · skip
    have hc_7 := of_decide_eq_true hc_7
    refine T_skip ?_
    refine T_seq ?_
    refine T_block ?_
    refine T_seq ?_
    refine T_reg hF rfl ?_
    refine L_op rfl (op_pr (pr_assign rfl rfl) rfl rfl ?_)
    refine L_nil ?_
    refine T_re [(0, (.slice (some ⟨g4, 0, none⟩) 32 32)), (1, (.slice B nt d)), (4, (.pointer (some ⟨g1, 0, none⟩))), (6, (.slice (some ⟨g5, 0, none⟩) 64 64)), (7, (.slice (some ⟨g6, 0, none⟩) 64 64)), (8, (.int .i64 ((i : Nat) : Int))), (9, (b8 (0#8)))] (sc rfl (sc rfl (sc rfl (sc rfl (sc rfl (sc rfl (sc rfl sn))))))) ?_
    refine T_he [0, 1, 2, 3, 4, 5] [.blk g6 5 ((pre0 (hpad (shasum xs) 92#8) 64 i).map b8), .blk g5 5 ((pre0 (hpad (shasum xs) 54#8) 64 i).map b8), .blk g4 26 ((shasum xs).map b8), .blk g1 26 ((List.replicate 32 0#8).map b8), .rd A 1 n c (xs.map b8), .rd B 1 nt d (ts.map b8)] ⟨by decide, rfl⟩ ?_
    refine T_seq ?_
    refine T_seq ?_
    refine T_reg hF rfl ?_
    refine L_op rfl (op_pr (pr_move rfl rfl) rfl rfl ?_)
    refine L_op rfl (op_pr (pr_move rfl rfl) rfl rfl ?_)
    refine L_op rfl (op_pr (pr_len_sl Try.underlying24 rfl rfl) rfl rfl ?_)
    refine L_op rfl (op_pr (pr_cmp (bo := .lss) (nc_lt (a := i) (b := 32)) rfl rfl rfl rfl) rfl rfl ?_)
    refine L_nil ?_
    refine T_re [(0, (.slice (some ⟨g4, 0, none⟩) 32 32)), (1, (.slice B nt d)), (4, (.pointer (some ⟨g1, 0, none⟩))), (6, (.slice (some ⟨g5, 0, none⟩) 64 64)), (7, (.slice (some ⟨g6, 0, none⟩) 64 64)), (8, (.int .i64 ((i : Nat) : Int))), (9, (b8 (0#8))), (26, (.bool (decide (i < 32))))] (sc rfl (sc rfl (sc rfl (sc rfl (sc rfl (sc rfl (sc rfl (sc rfl sn)))))))) ?_
    refine T_he [0, 1, 2, 3, 4, 5] [.blk g6 5 ((pre0 (hpad (shasum xs) 92#8) 64 i).map b8), .blk g5 5 ((pre0 (hpad (shasum xs) 54#8) 64 i).map b8), .blk g4 26 ((shasum xs).map b8), .blk g1 26 ((List.replicate 32 0#8).map b8), .rd A 1 n c (xs.map b8), .rd B 1 nt d (ts.map b8)] ⟨by decide, rfl⟩ ?_
    refine T_cond (decide (i < 32)) rfl (fun hc_8 => ?_) (fun hc_8 => ?_)
    · skip
      have hc_8 := of_decide_eq_true hc_8
      refine T_reg hF rfl ?_
      refine L_op rfl (op_pr (pr_move rfl rfl) rfl rfl ?_)
      refine L_op rfl (op_pr (pr_move rfl rfl) rfl rfl ?_)
      refine L_op rfl (op_pr (pr_ixb (j := i) (m' := i) sd (by omega) Try.underlying24 (z := 1) (by kernel_rfl) rfl rfl rfl) rfl rfl ?_)
      refine L_op rfl (op_ld (ld_blk 2 rfl (get8 sd) Try.underlying5 rfl rfl rfl) rfl rfl ?_)
      refine L_op rfl (op_pr (pr_assign rfl rfl) rfl rfl ?_)
      refine L_nil ?_
      refine T_re [(0, (.slice (some ⟨g4, 0, none⟩) 32 32)), (1, (.slice B nt d)), (4, (.pointer (some ⟨g1, 0, none⟩))), (6, (.slice (some ⟨g5, 0, none⟩) 64 64)), (7, (.slice (some ⟨g6, 0, none⟩) 64 64)), (8, (.int .i64 ((i : Nat) : Int))), (9, (b8 (ath (shasum xs) i)))] (sc rfl (sc rfl (sc rfl (sc rfl (sc rfl (sc rfl (sc rfl sn))))))) ?_
      refine T_he [0, 1, 2, 3, 4, 5] [.blk g6 5 ((pre0 (hpad (shasum xs) 92#8) 64 i).map b8), .blk g5 5 ((pre0 (hpad (shasum xs) 54#8) 64 i).map b8), .blk g4 26 ((shasum xs).map b8), .blk g1 26 ((List.replicate 32 0#8).map b8), .rd A 1 n c (xs.map b8), .rd B 1 nt d (ts.map b8)] ⟨by decide, rfl⟩ ?_
      refine T_reg hF rfl ?_
      refine L_op rfl (op_pr (pr_move rfl rfl) rfl rfl ?_)
      refine L_op rfl (op_pr (pr_move rfl rfl) rfl rfl ?_)
      refine L_op rfl (op_pr (pr_move rfl rfl) rfl rfl ?_)
      refine L_op rfl (op_pr (pr_move rfl rfl) rfl rfl ?_)
      refine L_op rfl (op_pr (pr_move rfl rfl) rfl rfl ?_)
      refine L_op rfl (op_pr (pr_xor (ib_xor8 _ (54#8)) rfl rfl rfl) rfl rfl ?_)
      refine L_op rfl (op_pr (pr_move rfl rfl) rfl rfl ?_)
      refine L_op rfl (op_pr (pr_xor (ib_xor8 _ (92#8)) rfl rfl rfl) rfl rfl ?_)
      refine L_op rfl (op_pr (pr_ixb (j := i) (m' := i) sd (by omega) Try.underlying24 (z := 1) (by kernel_rfl) rfl rfl rfl) rfl rfl ?_)
      refine L_op rfl (op_store (vs := [(b8 ((ath (shasum xs) i) ^^^ 54#8))]) (cs' := ((List.set (pre0 (hpad (shasum xs) 54#8) 64 i) i ((ath (shasum xs) i) ^^^ 54#8)).map b8)) 1 rfl rfl (by kernel_rfl) (one_one rfl) (by have : i < ((pre0 (hpad (shasum xs) 54#8) 64 i)).length := sd; simp only [List.length_map, List.length_singleton]; omega) (splice_map (f := b8) sd) rfl rfl rfl rfl ?_)
      refine L_op rfl (op_pr (pr_ixb (j := i) (m' := i) sd (by omega) Try.underlying24 (z := 1) (by kernel_rfl) rfl rfl rfl) rfl rfl ?_)
      refine L_op rfl (op_store (vs := [(b8 ((ath (shasum xs) i) ^^^ 92#8))]) (cs' := ((List.set (pre0 (hpad (shasum xs) 92#8) 64 i) i ((ath (shasum xs) i) ^^^ 92#8)).map b8)) 1 rfl rfl (by kernel_rfl) (one_one rfl) (by have : i < ((pre0 (hpad (shasum xs) 92#8) 64 i)).length := sd; simp only [List.length_map, List.length_singleton]; omega) (splice_map (f := b8) sd) rfl rfl rfl rfl ?_)
      refine L_nil ?_
      refine T_re [(0, (.slice (some ⟨g4, 0, none⟩) 32 32)), (1, (.slice B nt d)), (4, (.pointer (some ⟨g1, 0, none⟩))), (6, (.slice (some ⟨g5, 0, none⟩) 64 64)), (7, (.slice (some ⟨g6, 0, none⟩) 64 64)), (8, (.int .i64 ((i : Nat) : Int)))] (sc rfl (sc rfl (sc rfl (sc rfl (sc rfl (sc rfl sn)))))) ?_
      refine T_he [0, 1, 2, 3, 4, 5] [.blk g6 5 ((List.set (pre0 (hpad (shasum xs) 92#8) 64 i) i ((ath (shasum xs) i) ^^^ 92#8)).map b8), .blk g5 5 ((List.set (pre0 (hpad (shasum xs) 54#8) 64 i) i ((ath (shasum xs) i) ^^^ 54#8)).map b8), .blk g4 26 ((shasum xs).map b8), .blk g1 26 ((List.replicate 32 0#8).map b8), .rd A 1 n c (xs.map b8), .rd B 1 nt d (ts.map b8)] ⟨by decide, rfl⟩ ?_
      refine T_reg hF rfl ?_
      refine L_op rfl (op_pr (pr_move rfl rfl) rfl rfl ?_)
      refine L_op rfl (op_pr (pr_add (na_i64 (a := i) (b := 1) sd) rfl rfl rfl) rfl rfl ?_)
      refine L_op rfl (op_pr (pr_assign rfl rfl) rfl rfl ?_)
      refine L_nil ?_
      refine T_re [(0, (.slice (some ⟨g4, 0, none⟩) 32 32)), (1, (.slice B nt d)), (4, (.pointer (some ⟨g1, 0, none⟩))), (6, (.slice (some ⟨g5, 0, none⟩) 64 64)), (7, (.slice (some ⟨g6, 0, none⟩) 64 64)), (8, (.int .i64 ((i + 1 : Nat) : Int)))] (sc rfl (sc rfl (sc rfl (sc rfl (sc rfl (sc rfl sn)))))) ?_
      refine T_he [0, 1, 2, 3, 4, 5] [.blk g6 5 ((List.set (pre0 (hpad (shasum xs) 92#8) 64 i) i ((ath (shasum xs) i) ^^^ 92#8)).map b8), .blk g5 5 ((List.set (pre0 (hpad (shasum xs) 54#8) 64 i) i ((ath (shasum xs) i) ^^^ 54#8)).map b8), .blk g4 26 ((shasum xs).map b8), .blk g1 26 ((List.replicate 32 0#8).map b8), .rd A 1 n c (xs.map b8), .rd B 1 nt d (ts.map b8)] ⟨by decide, rfl⟩ ?_
      refine T_as 0 (.blk g6 5 ((List.set (pre0 (hpad (shasum xs) 92#8) 64 i) i ((ath (shasum xs) i) ^^^ 92#8)).map b8)) (.blk g6 5 ((pre0 (hpad (shasum xs) 92#8) 64 (i + 1)).map b8)) rfl (by rw [hpre_set _ _ _ i (by omega) (by first | rfl | (rw [ath_out _ _ (by omega)]))]) ?_
      refine T_as 1 (.blk g5 5 ((List.set (pre0 (hpad (shasum xs) 54#8) 64 i) i ((ath (shasum xs) i) ^^^ 54#8)).map b8)) (.blk g5 5 ((pre0 (hpad (shasum xs) 54#8) 64 (i + 1)).map b8)) rfl (by rw [hpre_set _ _ _ i (by omega) (by first | rfl | (rw [ath_out _ _ (by omega)]))]) ?_
      exact T_again (i + 1) (by first | trivial | ((try dsimp only); first | omega | (refine ⟨?_, ?_⟩ <;> omega) | (refine ⟨?_, ?_, ?_⟩ <;> omega) | (simp; done) | (simp; omega))) (by first | trivial | ((try dsimp only); first | omega | (refine ⟨?_, ?_⟩ <;> omega) | (refine ⟨?_, ?_, ?_⟩ <;> omega) | (simp; done) | (simp; omega))) (sc rfl (sc rfl (sc rfl (sc rfl (sc rfl (sc rfl sn)))))) [1, 0, 2, 3, 4, 5] ⟨by decide, rfl⟩
    · skip
      have hc_8 := of_decide_eq_false hc_8
      refine T_skip ?_
      refine T_reg hF rfl ?_
      refine L_op rfl (op_pr (pr_move rfl rfl) rfl rfl ?_)
      refine L_op rfl (op_pr (pr_move rfl rfl) rfl rfl ?_)
      refine L_op rfl (op_pr (pr_move rfl rfl) rfl rfl ?_)
      refine L_op rfl (op_pr (pr_move rfl rfl) rfl rfl ?_)
      refine L_op rfl (op_pr (pr_move rfl rfl) rfl rfl ?_)
      refine L_op rfl (op_pr (pr_xor (ib_xor8 _ (54#8)) rfl rfl rfl) rfl rfl ?_)
      refine L_op rfl (op_pr (pr_move rfl rfl) rfl rfl ?_)
      refine L_op rfl (op_pr (pr_xor (ib_xor8 _ (92#8)) rfl rfl rfl) rfl rfl ?_)
      refine L_op rfl (op_pr (pr_ixb (j := i) (m' := i) sd (by omega) Try.underlying24 (z := 1) (by kernel_rfl) rfl rfl rfl) rfl rfl ?_)
      refine L_op rfl (op_store (vs := [(b8 (0#8 ^^^ 54#8))]) (cs' := ((List.set (pre0 (hpad (shasum xs) 54#8) 64 i) i (0#8 ^^^ 54#8)).map b8)) 1 rfl rfl (by kernel_rfl) (one_one rfl) (by have : i < ((pre0 (hpad (shasum xs) 54#8) 64 i)).length := sd; simp only [List.length_map, List.length_singleton]; omega) (splice_map (f := b8) sd) rfl rfl rfl rfl ?_)
      refine L_op rfl (op_pr (pr_ixb (j := i) (m' := i) sd (by omega) Try.underlying24 (z := 1) (by kernel_rfl) rfl rfl rfl) rfl rfl ?_)
      refine L_op rfl (op_store (vs := [(b8 (0#8 ^^^ 92#8))]) (cs' := ((List.set (pre0 (hpad (shasum xs) 92#8) 64 i) i (0#8 ^^^ 92#8)).map b8)) 1 rfl rfl (by kernel_rfl) (one_one rfl) (by have : i < ((pre0 (hpad (shasum xs) 92#8) 64 i)).length := sd; simp only [List.length_map, List.length_singleton]; omega) (splice_map (f := b8) sd) rfl rfl rfl rfl ?_)
      refine L_nil ?_
      refine T_re [(0, (.slice (some ⟨g4, 0, none⟩) 32 32)), (1, (.slice B nt d)), (4, (.pointer (some ⟨g1, 0, none⟩))), (6, (.slice (some ⟨g5, 0, none⟩) 64 64)), (7, (.slice (some ⟨g6, 0, none⟩) 64 64)), (8, (.int .i64 ((i : Nat) : Int)))] (sc rfl (sc rfl (sc rfl (sc rfl (sc rfl (sc rfl sn)))))) ?_
      refine T_he [0, 1, 2, 3, 4, 5] [.blk g6 5 ((List.set (pre0 (hpad (shasum xs) 92#8) 64 i) i (0#8 ^^^ 92#8)).map b8), .blk g5 5 ((List.set (pre0 (hpad (shasum xs) 54#8) 64 i) i (0#8 ^^^ 54#8)).map b8), .blk g4 26 ((shasum xs).map b8), .blk g1 26 ((List.replicate 32 0#8).map b8), .rd A 1 n c (xs.map b8), .rd B 1 nt d (ts.map b8)] ⟨by decide, rfl⟩ ?_
      refine T_reg hF rfl ?_
      refine L_op rfl (op_pr (pr_move rfl rfl) rfl rfl ?_)
      refine L_op rfl (op_pr (pr_add (na_i64 (a := i) (b := 1) sd) rfl rfl rfl) rfl rfl ?_)
      refine L_op rfl (op_pr (pr_assign rfl rfl) rfl rfl ?_)
      refine L_nil ?_
      refine T_re [(0, (.slice (some ⟨g4, 0, none⟩) 32 32)), (1, (.slice B nt d)), (4, (.pointer (some ⟨g1, 0, none⟩))), (6, (.slice (some ⟨g5, 0, none⟩) 64 64)), (7, (.slice (some ⟨g6, 0, none⟩) 64 64)), (8, (.int .i64 ((i + 1 : Nat) : Int)))] (sc rfl (sc rfl (sc rfl (sc rfl (sc rfl (sc rfl sn)))))) ?_
      refine T_he [0, 1, 2, 3, 4, 5] [.blk g6 5 ((List.set (pre0 (hpad (shasum xs) 92#8) 64 i) i (0#8 ^^^ 92#8)).map b8), .blk g5 5 ((List.set (pre0 (hpad (shasum xs) 54#8) 64 i) i (0#8 ^^^ 54#8)).map b8), .blk g4 26 ((shasum xs).map b8), .blk g1 26 ((List.replicate 32 0#8).map b8), .rd A 1 n c (xs.map b8), .rd B 1 nt d (ts.map b8)] ⟨by decide, rfl⟩ ?_
      refine T_as 0 (.blk g6 5 ((List.set (pre0 (hpad (shasum xs) 92#8) 64 i) i (0#8 ^^^ 92#8)).map b8)) (.blk g6 5 ((pre0 (hpad (shasum xs) 92#8) 64 (i + 1)).map b8)) rfl (by rw [hpre_set _ _ _ i (by omega) (by first | rfl | (rw [ath_out _ _ (by omega)]))]) ?_
      refine T_as 1 (.blk g5 5 ((List.set (pre0 (hpad (shasum xs) 54#8) 64 i) i (0#8 ^^^ 54#8)).map b8)) (.blk g5 5 ((pre0 (hpad (shasum xs) 54#8) 64 (i + 1)).map b8)) rfl (by rw [hpre_set _ _ _ i (by omega) (by first | rfl | (rw [ath_out _ _ (by omega)]))]) ?_
      exact T_again (i + 1) (by first | trivial | ((try dsimp only); first | omega | (refine ⟨?_, ?_⟩ <;> omega) | (refine ⟨?_, ?_, ?_⟩ <;> omega) | (simp; done) | (simp; omega))) (by first | trivial | ((try dsimp only); first | omega | (refine ⟨?_, ?_⟩ <;> omega) | (refine ⟨?_, ?_, ?_⟩ <;> omega) | (simp; done) | (simp; omega))) (sc rfl (sc rfl (sc rfl (sc rfl (sc rfl (sc rfl sn)))))) [1, 0, 2, 3, 4, 5] ⟨by decide, rfl⟩
  · skip
    have hc_7 := of_decide_eq_false hc_7
    refine T_exit rfl ?_
    obtain rfl : 64 = i := by omega
    refine T_as 0 (.blk g6 5 ((pre0 (hpad (shasum xs) 92#8) 64 64).map b8)) (.blk g6 5 (((hpad (shasum xs) 92#8)).map b8)) rfl (by rw [pre0_all _ _ (by assumption)]) ?_
    refine T_as 1 (.blk g5 5 ((pre0 (hpad (shasum xs) 54#8) 64 64).map b8)) (.blk g5 5 (((hpad (shasum xs) 54#8)).map b8)) rfl (by rw [pre0_all _ _ (by assumption)]) ?_
    refine T_seq ?_
    refine T_reg hF rfl ?_
    refine L_op rfl (op_pr (pr_move rfl rfl) rfl rfl ?_)
    refine L_op rfl (op_pr (pr_move rfl rfl) rfl rfl ?_)
    refine T_rowb 0 (zs := (((hpad (shasum xs) 54#8)).map b8)) 1 64 64 rfl sd sd sd (by rw [List.take_of_length_le sd]) ?_
    refine L_op rfl (op_append (z := (b8 (0#8))) (size := 1) (bytes := 1) 0 rfl Try.underlying24 (by kernel_rfl) (by kernel_rfl) (by decide) (src_rd 5 rfl) (all8_one _) sd sd rfl rfl rfl rfl rfl (fun A9 C10 => ?_))
    refine T_as 0 (.row (.slice A9 (64 + nt) C10) 5 1 (64 + nt) ((((hpad (shasum xs) 54#8)).map b8) ++ (ts.map b8))) (.row (.slice A9 (64 + nt) C10) 5 1 (64 + nt) ((((hpad (shasum xs) 54#8)) ++ ts).map b8)) rfl (by first | rfl | (congr 1; simp; done) | (simp only [List.map_append]; rfl) | (rw [List.map_append]; rfl)) ?_
    refine L_op rfl (op_call0 (vs := [(.slice A9 (64 + nt) C10)]) (cap := []) (fun w hw => rsum_f (((hpad (shasum xs) 54#8)) ++ ts) A9 (64 + nt) C10 w (hok_cons ((src_row 0 rfl) w hw) (hok_nil w)) (by first | assumption | omega | (simp; done) | (simp; omega)) sd) (enters_of Try.func18 (by kernel_rfl) rfl) rfl rfl rfl rfl rfl (fun t11 q12 => ?_))
    refine L_op rfl (op_alloc (z := .agg ((List.replicate 32 0#8).map b8).toArray) (zs := ((List.replicate 32 0#8).map b8)) (by kernel_rfl) rfl rfl rfl rfl (fun g13 => ?_))
    refine L_op rfl (op_store (vs := ((shasum (((hpad (shasum xs) 54#8)) ++ ts)).map b8)) (cs' := ((shasum (((hpad (shasum xs) 54#8)) ++ ts)).map b8)) 0 rfl rfl (by rw [show (((shasum (((hpad (shasum xs) 54#8)) ++ ts)).map b8)).length = 32 from sd]; kernel_rfl) (all8_one _) (by have h1 : (((List.replicate 32 0#8).map b8)).length = 32 := (by kernel_rfl); have h2 : (((shasum (((hpad (shasum xs) 54#8)) ++ ts)).map b8)).length = 32 := sd; omega) (splice_all (Eq.trans (b := 32) (by kernel_rfl) (Eq.symm sd))) rfl rfl rfl rfl ?_)
    refine L_nil ?_
    refine T_re [(4, (.pointer (some ⟨g1, 0, none⟩))), (7, (.slice (some ⟨g6, 0, none⟩) 64 64)), (10, (.pointer (some ⟨g13, 0, none⟩)))] (sc rfl (sc rfl (sc rfl sn))) ?_
    refine T_he [0, 1, 2, 3, 4, 5, 6] [.blk g13 26 ((shasum (((hpad (shasum xs) 54#8)) ++ ts)).map b8), .row (.slice A9 (64 + nt) C10) 5 1 (64 + nt) ((((hpad (shasum xs) 54#8)) ++ ts).map b8), .blk g6 5 (((hpad (shasum xs) 92#8)).map b8), .blk g4 26 ((shasum xs).map b8), .blk g1 26 ((List.replicate 32 0#8).map b8), .rd A 1 n c (xs.map b8), .rd B 1 nt d (ts.map b8)] ⟨by decide, rfl⟩ ?_
    refine T_seq ?_
    refine T_reg hF rfl ?_
    refine L_op rfl (op_pr (pr_move rfl rfl) rfl rfl ?_)
    refine L_op rfl (op_pr (pr_sla (l := 0) (u := 32) (m := 0) sd sd sd rfl Try.underlying26 (z := 1) (by kernel_rfl) rfl rfl rfl rfl) rfl rfl ?_)
    refine T_rowb 2 (zs := (((hpad (shasum xs) 92#8)).map b8)) 1 64 64 rfl sd sd sd (by rw [List.take_of_length_le sd]) ?_
    refine L_op rfl (op_append (z := (b8 (0#8))) (size := 1) (bytes := 1) 0 rfl Try.underlying24 (by kernel_rfl) (by kernel_rfl) (by decide) (src_full (z := 1) 1 rfl sd sd sd) (all8_one _) sd sd rfl rfl rfl rfl rfl (fun A14 C15 => ?_))
    refine T_as 0 (.row (.slice A14 (64 + 32) C15) 5 1 (64 + 32) ((((hpad (shasum xs) 92#8)).map b8) ++ ((shasum (((hpad (shasum xs) 54#8)) ++ ts)).map b8))) (.row (.slice A14 96 C15) 5 1 96 ((((hpad (shasum xs) 92#8)) ++ (shasum (((hpad (shasum xs) 54#8)) ++ ts))).map b8)) rfl (by first | rfl | (congr 1; simp; done) | (simp only [List.map_append]; rfl) | (rw [List.map_append]; rfl)) ?_
    refine T_slot 47 (.slice A14 (64 + 32) C15) (.slice A14 96 C15) rfl rfl ?_
    refine L_op rfl (op_call0 (vs := [(.slice A14 96 C15)]) (cap := []) (fun w hw => rsum_f (((hpad (shasum xs) 92#8)) ++ (shasum (((hpad (shasum xs) 54#8)) ++ ts))) A14 96 C15 w (hok_cons ((src_row 0 rfl) w hw) (hok_nil w)) (by first | assumption | omega | (simp; done) | (simp; omega)) sd) (enters_of Try.func18 (by kernel_rfl) rfl) rfl rfl rfl rfl rfl (fun t16 q17 => ?_))
    refine L_op rfl (op_store (vs := ((shasum (((hpad (shasum xs) 92#8)) ++ (shasum (((hpad (shasum xs) 54#8)) ++ ts)))).map b8)) (cs' := ((shasum (((hpad (shasum xs) 92#8)) ++ (shasum (((hpad (shasum xs) 54#8)) ++ ts)))).map b8)) 4 rfl rfl (by rw [show (((shasum (((hpad (shasum xs) 92#8)) ++ (shasum (((hpad (shasum xs) 54#8)) ++ ts)))).map b8)).length = 32 from sd]; kernel_rfl) (all8_one _) (by have h1 : (((List.replicate 32 0#8).map b8)).length = 32 := (by kernel_rfl); have h2 : (((shasum (((hpad (shasum xs) 92#8)) ++ (shasum (((hpad (shasum xs) 54#8)) ++ ts)))).map b8)).length = 32 := sd; omega) (splice_all (Eq.trans (b := 32) (by kernel_rfl) (Eq.symm sd))) rfl rfl rfl rfl ?_)
    refine L_nil ?_
    refine T_re [(4, (.pointer (some ⟨g1, 0, none⟩)))] (sc rfl sn) ?_
    refine T_he [0, 1, 2, 3, 4, 5, 6] [.blk g1 26 ((shasum (((hpad (shasum xs) 92#8)) ++ (shasum (((hpad (shasum xs) 54#8)) ++ ts)))).map b8), .row (.slice A14 96 C15) 5 1 96 ((((hpad (shasum xs) 92#8)) ++ (shasum (((hpad (shasum xs) 54#8)) ++ ts))).map b8), .blk g13 26 ((shasum (((hpad (shasum xs) 54#8)) ++ ts)).map b8), .row (.slice A9 (64 + nt) C10) 5 1 (64 + nt) ((((hpad (shasum xs) 54#8)) ++ ts).map b8), .blk g4 26 ((shasum xs).map b8), .rd A 1 n c (xs.map b8), .rd B 1 nt d (ts.map b8)] ⟨by decide, rfl⟩ ?_
    refine T_ret ?_
    refine T_as 0 (.blk g1 26 ((shasum (((hpad (shasum xs) 92#8)) ++ (shasum (((hpad (shasum xs) 54#8)) ++ ts)))).map b8)) (.blk g1 26 ((mactag xs ts).map b8)) rfl (by rw [mactag_long xs ts (by omega)]) ?_
    exact T_fin () (by first | trivial | omega | (simp; done)) (resb 0 rfl rfl rfl Try.underlying26 rfl (by rw [show (((mactag xs ts).map b8)).length = 32 from sd]; kernel_rfl)) [] ⟨by decide, rfl⟩ rfl
theorem tag_f (xs : List (BitVec 8)) (A : Option Addr) (n : Nat) (c : Nat) (Q : List Pt) (B : Option Addr) (nq : Nat) (d : Nat) (w : World) (hO : HOK [.rd A 1 n c (xs.map b8), .rd B 1 nq d (Q.map Pt.sl), .all Q] w) (hx : xs.length = n) (hn : n ≤ 900000000) (hQ : Q.length = nq) (hm : nq ≤ 100000000) (hs : (catp Q).length ≤ 900000000) : Calls Try.prog 27 [(.slice A n c), (.slice B nq d)].toArray w (Ret (T := Unit) [] w (fun _ => True) (fun _ => (.agg ((mactag xs (catp Q)).map b8).toArray)) (fun _ => [])) := by
  by_cases h : n ≤ 64
  · exact tag_s_f xs A n c Q B nq d w hO hx h hQ hm hs
  · exact tag_l_f xs A n c Q B nq d w hO hx ⟨by omega, hn⟩ hQ hm hs

theorem rtag_f (xs : List (BitVec 8)) (A : Option Addr) (n : Nat) (c : Nat) (ts : List (BitVec 8)) (B : Option Addr) (nt : Nat) (d : Nat) (w : World) (hO : HOK [.rd A 1 n c (xs.map b8), .rd B 1 nt d (ts.map b8)] w) (hx : xs.length = n) (hn : n ≤ 900000000) (ht : ts.length = nt) (hnt : nt ≤ 900000000) : Calls Try.prog 28 [(.slice A n c), (.slice B nt d)].toArray w (Ret (T := Unit) [] w (fun _ => True) (fun _ => (.agg ((mactag xs ts).map b8).toArray)) (fun _ => [])) := by
  by_cases h : n ≤ 64
  · exact rtag_s_f xs A n c ts B nt d w hO hx h ht hnt
  · exact rtag_l_f xs A n c ts B nt d w hO hx ⟨by omega, hn⟩ ht hnt

end Go.Proofs.Ytmhkmamenfmolaa
