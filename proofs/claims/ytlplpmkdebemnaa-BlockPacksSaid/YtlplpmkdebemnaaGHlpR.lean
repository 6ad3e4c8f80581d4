/- What the helpers of the statements answer on records, by facts. Conditions: lengths. -/
import Derived.Test.YtlplpmkdebemnaaGBlk1
import Derived.Test.YtlplpmkdebemnaaFwT
import Derived.Test.YtlplpmkdebemnaaProg
import Derived.Test.YtlplpmkdebemnaaFwU
namespace Go.Proofs.Ytlplpmkdebemnaa
set_option linter.unusedVariables false
set_option linter.unusedSimpArgs false
set_option linter.unnecessarySimpa false
set_option maxRecDepth 100000
open Go.RowKit Bv Fw

theorem ownr_step (xs : List Rc) (f : Rc) (n k : Nat) (hx : xs.length = n) (hk : k < 3) : (xs ++ (List.replicate k f ++ List.replicate (3 - k) rc0)).set (n + k) f = xs ++ (List.replicate (k + 1) f ++ List.replicate (3 - (k + 1)) rc0) := by
  subst hx
  rcases (by omega : k = 0 ∨ k = 1 ∨ k = 2) with rfl | rfl | rfl <;> simp [List.set_append_right, List.replicate]
theorem ownr_at (xs : List Rc) (f : Rc) (n k : Nat) (hx : xs.length = n) (hk : k < 3) : rat (List.take (n + 3) (xs ++ [f, f, f])) (n + k) = f := by
  subst hx
  unfold rat
  rcases (by omega : k = 0 ∨ k = 1 ∨ k = 2) with rfl | rfl | rfl <;> simp [List.getD_eq_getElem?_getD, List.getElem?_take, List.getElem?_append_right]

set_option maxHeartbeats 4000000 in
theorem rplain1_f (d : Bool) (vk : BitVec 64) (vv : BitVec 64) (vs : BitVec 64) (w : World) (hO : HOK [] w)  : Calls Try.prog 48 [(.agg [(.bool d), (.int .i64 (i64 vk)), (.int .i64 (i64 vv)), (.int .i64 (i64 vs))].toArray), (.agg [(.bool d), (.int .i64 (i64 vk)), (.int .i64 (i64 vv)), (.int .i64 (i64 vs))].toArray)].toArray w (Ret (T := Unit) [] w (fun _ => True) (fun _ => (.bool true)) (fun _ => [])) := by
 have hF : Wid Fence.wide := wid_wide
 refine enter (c := _) Try.func48 rfl [] _ [] (by rw [Try.ntmps48]; rfl) (own_rds hO rfl) ?_
 rw [Try.ntmps48]
 refine T_re [(0, (.agg [(.bool d), (.int .i64 (i64 vk)), (.int .i64 (i64 vv)), (.int .i64 (i64 vs))].toArray)), (1, (.agg [(.bool d), (.int .i64 (i64 vk)), (.int .i64 (i64 vv)), (.int .i64 (i64 vs))].toArray))] (sc rfl (sc rfl sn)) ?_
 refine T_he [] [] ⟨by decide, rfl⟩ ?_
 refine Tsr hF rfl ?_
 refine L_op rfl (op_box (zs := [(.bool d), (.int .i64 (i64 vk)), (.int .i64 (i64 vv)), (.int .i64 (i64 vs))]) rfl rfl rfl rfl rfl (fun g1 => ?_))
 refine L_op rfl (op_box (zs := [(.bool d), (.int .i64 (i64 vk)), (.int .i64 (i64 vv)), (.int .i64 (i64 vs))]) rfl rfl rfl rfl rfl (fun g2 => ?_))
 refine la rfl rfl rfl rfl rfl ?_
 refine L_nil ?_
 refine Tsr hF rfl ?_
 refine lq rfl (ld_agg (ds := [(.bool d), (.int .i64 (i64 vk)), (.int .i64 (i64 vv)), (.int .i64 (i64 vs))]) 1 rfl agg_all Try.underlying43 rfl kr rfl rfl) rfl rfl ?_
 refine lq rfl (ld_agg (ds := [(.bool d), (.int .i64 (i64 vk)), (.int .i64 (i64 vv)), (.int .i64 (i64 vs))]) 0 rfl agg_all Try.underlying43 rfl kr rfl rfl) rfl rfl ?_
 refine lo rfl (pr_eqs (bo := .eql) (c := true) (r := true) (fun _ _ => eqs Try.underlying43 kr (eqt rfl (part1 Try.underlying4 rfl rfl) (part1 Try.underlying4 rfl rfl) (eqv_sb Try.underlying4) (eqt rfl (part1 Try.underlying2 rfl rfl) (part1 Try.underlying2 rfl rfl) (eqv_si Try.underlying2) (eqt rfl (part1 Try.underlying2 rfl rfl) (part1 Try.underlying2 rfl rfl) (eqv_si Try.underlying2) (eqt rfl (part1 Try.underlying2 rfl rfl) (part1 Try.underlying2 rfl rfl) (eqv_si Try.underlying2) eqf_nil))))) kr rfl rfl rfl rfl rfl) rfl rfl ?_
 refine la rfl rfl rfl rfl rfl ?_
 refine L_nil ?_
 refine T_ret ?_
 exact T_fin () (by first | trivial | omega | (simp; done)) (res1 rfl rfl) [] ⟨by decide, rfl⟩ rfl
set_option maxHeartbeats 4000000 in
theorem rsame_f (xs : List Rc) (A : Option Addr) (n : Nat) (c : Nat) (B : Option Addr) (e : Nat) (w : World) (hO : HOK [.rd A 4 n c (rcs xs), .rd B 4 n e (rcs xs)] w) (hx : xs.length = n) (hn : n ≤ 1000000) : Calls Try.prog 47 [(.slice A n c), (.slice B n e), (.func (.func 48) #[] [].toArray)].toArray w (Ret (T := Unit) [] w (fun _ => True) (fun _ => (.bool true)) (fun _ => [])) := by
 have hF : Wid Fence.wide := wid_wide
 refine enter (c := _) Try.func47 rfl [] _ [.rd A 4 n c (rcs xs), .rd B 4 n e (rcs xs)] (by rw [Try.ntmps47]; rfl) (own_rds hO rfl) ?_
 rw [Try.ntmps47]
 refine T_re [(0, (.slice A n c)), (1, (.slice B n e)), (2, (.func (.func 48) #[] [].toArray))] (sc rfl (sc rfl (sc rfl sn))) ?_
 refine T_he [0, 1] [.rd A 4 n c (rcs xs), .rd B 4 n e (rcs xs)] ⟨by decide, rfl⟩ ?_
 refine Tsr hF rfl ?_
 refine la rfl rfl rfl rfl rfl ?_
 refine L_nil ?_
 refine T_seq ?_
 refine Tsr hF rfl ?_
 refine lm rfl rfl rfl rfl rfl ?_
 refine lo rfl (pr_len_sl Try.underlying27 rfl rfl) rfl rfl ?_
 refine lm rfl rfl rfl rfl rfl ?_
 refine lo rfl (pr_len_sl Try.underlying27 rfl rfl) rfl rfl ?_
 refine lo rfl (pr_cmp (bo := .neq) (nc_ne (a := n) (b := n)) rfl rfl rfl rfl) rfl rfl ?_
 refine L_nil ?_
 refine T_cond_no (t := (n != n)) rfl (by simp) ?_
 refine T_skip ?_
 refine T_seq ?_
 refine Tsr hF rfl ?_
 refine la rfl rfl rfl rfl rfl ?_
 refine L_nil ?_
 refine T_block ?_
 refine T_loop (T := Nat) (fun k => k ≤ n) (fun k => [(0, (.slice A n c)), (1, (.slice B n e)), (2, (.func (.func 48) #[] [].toArray)), (7, (.int .i64 ((k : Nat) : Int)))]) (fun k => [.rd A 4 n c (rcs xs), .rd B 4 n e (rcs xs)]) (fun k => n - k) 0 (by first | trivial | ((try dsimp only); first | omega | (refine ⟨?_, ?_⟩ <;> omega) | (refine ⟨?_, ?_, ?_⟩ <;> omega) | (simp; done) | (simp; omega))) (sc rfl (sc rfl (sc rfl (sc rfl sn)))) [0, 1] ⟨by decide, rfl⟩ ?_
 rintro k hp
 have hp : k ≤ n := hp
 refine T_re [(0, (.slice A n c)), (1, (.slice B n e)), (2, (.func (.func 48) #[] [].toArray)), (7, (.int .i64 ((k : Nat) : Int)))] (sc rfl (sc rfl (sc rfl (sc rfl sn)))) ?_
 refine T_he [0, 1] [.rd A 4 n c (rcs xs), .rd B 4 n e (rcs xs)] ⟨by decide, rfl⟩ ?_
 refine T_seq ?_
 refine Tsr hF rfl ?_
 refine lm rfl rfl rfl rfl rfl ?_
 refine lm rfl rfl rfl rfl rfl ?_
 refine lo rfl (pr_len_sl Try.underlying27 rfl rfl) rfl rfl ?_
 refine lo rfl (pr_cmp (bo := .lss) (nc_lt (a := k) (b := n)) rfl rfl rfl rfl) rfl rfl ?_
 refine L_nil ?_
 refine T_cond (decide (k < n)) rfl (fun hc_1 => ?_) (fun hc_1 => ?_)
 ·
  have hc_1 := of_decide_eq_true hc_1
  refine T_skip ?_
  refine T_seq ?_
  refine T_block ?_
  refine T_seq ?_
  refine T_regD [.rd A 4 n c (rcs xs), .rd B 4 n e (rcs xs)] 11 11 #[false, false, false, false, false, false, false, false, false, false, false] hF kr kr ?_
  refine D_pure (i := 0) [0, 1] rfl kr rfl (pr_move rfl rfl) (.inr rfl) rfl rfl ?_
  refine D_pure (i := 1) [0, 1] rfl kr rfl (pr_move rfl rfl) (.inr rfl) rfl rfl ?_
  refine D_pure (i := 2) [0, 1] rfl kr rfl (pr_move rfl rfl) (.inr rfl) rfl rfl ?_
  refine D_pure (i := 3) [0, 1] rfl kr rfl (pr_ixs (j := k) (src_none (src_rd 0 rfl)) sd Try.underlying27 (z := 4) kr rfl rfl rfl) (.inr rfl) rfl rfl ?_
  refine D_pure (i := 5) [0, 1] rfl kr rfl (pr_move rfl rfl) (.inr rfl) rfl rfl ?_
  refine D_pure (i := 6) [0, 1] rfl kr rfl (pr_move rfl rfl) (.inr rfl) rfl rfl ?_
  refine D_pure (i := 7) [0, 1] rfl kr rfl (pr_ixs (j := k) (src_none (src_rd 1 rfl)) sd Try.underlying27 (z := 4) kr rfl rfl rfl) (.inr rfl) rfl rfl ?_
  refine D_take (i := 4) [0, 1] rfl kr rfl (ld_rc (j := k) (src_rd 0 rfl) sd Try.underlying43 rfl kr rfl rfl) rfl rfl rfl ?_
  refine D_take (i := 8) [0, 1] rfl kr rfl (ld_rc (j := k) (src_rd 1 rfl) sd Try.underlying43 rfl kr rfl rfl) rfl rfl rfl ?_
  refine D_one 9 _ rfl kr rfl (op_cn (fun w hw => rplain1_f ((rat xs k).d) ((rat xs k).k) ((rat xs k).v) ((rat xs k).s) w (hok_nil w) ) (enters_of Try.func48 kr rfl) rfl rfl rfl rfl rfl (fun t2 q3 => ?_))
  refine D_on [0, 1] rfl ?_
  refine D_pure (i := 10) [0, 1] rfl kr rfl (pr_un (v := .bool false) rfl rfl rfl) (.inr rfl) rfl rfl ?_
  refine D_done kr ?_
  refine T_cond_f rfl ?_
  refine T_skip ?_
  refine T_reg hF rfl ?_
  refine lm rfl rfl rfl rfl rfl ?_
  refine lo rfl (pr_add (na_i64 (a := k) (b := 1) sd) rfl rfl rfl) rfl rfl ?_
  refine la rfl rfl rfl rfl rfl ?_
  refine L_nil ?_
  exact T_again (k + 1) (by first | trivial | ((try dsimp only); first | omega | (refine ⟨?_, ?_⟩ <;> omega) | (refine ⟨?_, ?_, ?_⟩ <;> omega) | (simp; done) | (simp; omega))) (by first | trivial | ((try dsimp only); first | omega | (refine ⟨?_, ?_⟩ <;> omega) | (refine ⟨?_, ?_, ?_⟩ <;> omega) | (simp; done) | (simp; omega))) (sc rfl (sc rfl (sc rfl (sc rfl sn)))) [0, 1] ⟨by decide, rfl⟩
 ·
  have hc_1 := of_decide_eq_false hc_1
  refine T_exit rfl ?_
  refine Tsr hF rfl ?_
  refine la rfl rfl rfl rfl rfl ?_
  refine L_nil ?_
  refine T_ret ?_
  exact T_fin () (by first | trivial | omega | (simp; done)) (res1 rfl rfl) [] ⟨by decide, rfl⟩ rfl
set_option maxHeartbeats 4000000 in
theorem rplain_f (xs : List Rc) (A : Option Addr) (n : Nat) (c : Nat) (B : Option Addr) (e : Nat) (w : World) (hO : HOK [.rd A 4 n c (rcs xs), .rd B 4 n e (rcs xs)] w) (hx : xs.length = n) (hn : n ≤ 1000000) : Calls Try.prog 23 [(.slice A n c), (.slice B n e)].toArray w (Ret (T := Unit) [] w (fun _ => True) (fun _ => (.bool true)) (fun _ => [])) := by
 have hF : Wid Fence.wide := wid_wide
 refine enter (c := _) Try.func23 rfl [] _ [.rd A 4 n c (rcs xs), .rd B 4 n e (rcs xs)] (by rw [Try.ntmps23]; rfl) (own_rds hO rfl) ?_
 rw [Try.ntmps23]
 refine T_re [(0, (.slice A n c)), (1, (.slice B n e))] (sc rfl (sc rfl sn)) ?_
 refine T_he [0, 1] [.rd A 4 n c (rcs xs), .rd B 4 n e (rcs xs)] ⟨by decide, rfl⟩ ?_
 refine Tsr hF rfl ?_
 refine la rfl rfl rfl rfl rfl ?_
 refine L_nil ?_
 refine Tsr hF rfl ?_
 refine lm rfl rfl rfl rfl rfl ?_
 refine lm rfl rfl rfl rfl rfl ?_
 refine L_op rfl (op_cn (fun w hw => rsame_f xs A n c B e w (hok_cons ((src_rd 0 rfl) w hw) (hok_cons ((src_rd 1 rfl) w hw) (hok_nil w))) sd sd) (enters_of Try.func47 kr rfl) rfl rfl rfl rfl rfl (fun t1 q2 => ?_))
 refine la rfl rfl rfl rfl rfl ?_
 refine L_nil ?_
 refine T_ret ?_
 exact T_fin () (by first | trivial | omega | (simp; done)) (res1 rfl rfl) [] ⟨by decide, rfl⟩ rfl
set_option maxHeartbeats 4000000 in
theorem rown_f (xs : List Rc) (A : Option Addr) (n : Nat) (c : Nat) (d : Bool) (vk : BitVec 64) (vv : BitVec 64) (vs : BitVec 64) (w : World) (hO : HOK [.rd A 4 n c (rcs xs)] w) (hx : xs.length = n) (hn : n ≤ 1000000) : Calls Try.prog 19 [(.slice A n c), (.agg [(.bool d), (.int .i64 (i64 vk)), (.int .i64 (i64 vv)), (.int .i64 (i64 vs))].toArray)].toArray w (Ret (T := Option Addr × Nat) [] w (fun ⟨B, e⟩ => n + 3 ≤ e) (fun ⟨B, e⟩ => (.slice B n e)) (fun ⟨B, e⟩ => [.old B 4 (n + 3) e (rcs (xs ++ [(Rc.mk d vk vv vs), (Rc.mk d vk vv vs), (Rc.mk d vk vv vs)])), .old B 4 n e (rcs xs)])) := by
 have hr3 : (rcs (xs ++ [(Rc.mk d vk vv vs), (Rc.mk d vk vv vs), (Rc.mk d vk vv vs)])).length = (n + 3) * 4 := by rw [rcs_len]; simp; omega
 have hF : Wid Fence.wide := wid_wide
 refine enter (c := _) Try.func19 rfl [] _ [.rd A 4 n c (rcs xs)] (by rw [Try.ntmps19]; rfl) (own_rds hO rfl) ?_
 rw [Try.ntmps19]
 refine T_re [(0, (.slice A n c)), (1, (.agg [(.bool d), (.int .i64 (i64 vk)), (.int .i64 (i64 vv)), (.int .i64 (i64 vs))].toArray))] (sc rfl (sc rfl sn)) ?_
 refine T_he [0] [.rd A 4 n c (rcs xs)] ⟨by decide, rfl⟩ ?_
 refine Tsr hF rfl ?_
 refine L_op rfl (op_box (zs := [(.bool d), (.int .i64 (i64 vk)), (.int .i64 (i64 vv)), (.int .i64 (i64 vs))]) rfl rfl rfl rfl rfl (fun g1 => ?_))
 refine la rfl rfl rfl rfl rfl ?_
 refine L_nil ?_
 refine Tsr hF rfl ?_
 refine lm rfl rfl rfl rfl rfl ?_
 refine lo rfl (pr_len_sl Try.underlying27 rfl rfl) rfl rfl ?_
 refine lo rfl (pr_add (na_i64 (a := n) (b := 3) sd) rfl rfl rfl) rfl rfl ?_
 refine L_op rfl (op_makeR (n := 0) (c := n + 3) Try.underlying27 (bytes := 32) kr sd sd sd rfl rfl rfl rfl rfl (fun g2 => ?_))
 refine la rfl rfl rfl rfl rfl ?_
 refine L_nil ?_
 refine Tsr hF rfl ?_
 refine lm rfl rfl rfl rfl rfl ?_
 refine lm rfl rfl rfl rfl rfl ?_
 refine L_op rfl (op_app_roomR (zs := (xs ++ (List.replicate 0 (Rc.mk d vk vv vs) ++ List.replicate (3 - 0) rc0))) 0 rfl Try.underlying27 kr (src_rd 2 rfl) sd (by simp) (by simp) rfl rfl rfl rfl rfl ?_)
 refine la rfl rfl rfl rfl rfl ?_
 refine L_nil ?_
 refine Tsr hF rfl ?_
 refine lm rfl rfl rfl rfl rfl ?_
 refine lm rfl rfl rfl rfl rfl ?_
 refine lo rfl (pr_len_sl Try.underlying27 rfl rfl) rfl rfl ?_
 refine lo rfl (pr_add (na_i64 (a := n) (b := 3) sd) rfl rfl rfl) rfl rfl ?_
 refine lo rfl (pr_slup (u := n + 3) sd Try.underlying27 (z := 4) kr rfl rfl rfl) rfl rfl ?_
 refine la rfl rfl rfl rfl rfl ?_
 refine L_nil ?_
 refine T_seq ?_
 refine Tsr hF rfl ?_
 refine lm rfl rfl rfl rfl rfl ?_
 refine lo rfl (pr_len_sl Try.underlying27 rfl rfl) rfl rfl ?_
 refine la rfl rfl rfl rfl rfl ?_
 refine L_nil ?_
 refine T_block ?_
 refine T_slot 7 (.int .i64 ((n : Nat) : Int)) (.int .i64 ((n + 0 : Nat) : Int)) rfl (by congr 1) ?_
 refine T_loop (T := Nat) (fun k => k ≤ 3) (fun k => [(3, (.pointer (some ⟨g1, 0, none⟩))), (5, (.slice (some ⟨g2, 0, none⟩) (0 + n) (n + 3))), (6, (.slice (some ⟨g2, 0, none⟩) (n + 3) (n + 3))), (7, (.int .i64 ((n + k : Nat) : Int)))]) (fun k => [.blk g2 43 (rcs (xs ++ (List.replicate k (Rc.mk d vk vv vs) ++ List.replicate (3 - k) rc0))), .blk g1 43 [(.bool d), (.int .i64 (i64 vk)), (.int .i64 (i64 vv)), (.int .i64 (i64 vs))], .rd A 4 n c (rcs xs)]) (fun k => 3 - k) 0 (by first | trivial | ((try dsimp only); first | omega | (refine ⟨?_, ?_⟩ <;> omega) | (refine ⟨?_, ?_, ?_⟩ <;> omega) | (simp; done) | (simp; omega))) (sc rfl (sc rfl (sc rfl (sc rfl sn)))) [0, 1, 2] ⟨by decide, rfl⟩ ?_
 rintro k hp
 have hp : k ≤ 3 := hp
 have hol : (xs ++ (List.replicate k (Rc.mk d vk vv vs) ++ List.replicate (3 - k) rc0)).length = n + 3 := by simp; omega
 refine T_re [(3, (.pointer (some ⟨g1, 0, none⟩))), (5, (.slice (some ⟨g2, 0, none⟩) (0 + n) (n + 3))), (6, (.slice (some ⟨g2, 0, none⟩) (n + 3) (n + 3))), (7, (.int .i64 ((n + k : Nat) : Int)))] (sc rfl (sc rfl (sc rfl (sc rfl sn)))) ?_
 refine T_he [0, 1, 2] [.blk g2 43 (rcs (xs ++ (List.replicate k (Rc.mk d vk vv vs) ++ List.replicate (3 - k) rc0))), .blk g1 43 [(.bool d), (.int .i64 (i64 vk)), (.int .i64 (i64 vv)), (.int .i64 (i64 vs))], .rd A 4 n c (rcs xs)] ⟨by decide, rfl⟩ ?_
 refine T_seq ?_
 refine Tsr hF rfl ?_
 refine lm rfl rfl rfl rfl rfl ?_
 refine lm rfl rfl rfl rfl rfl ?_
 refine lo rfl (pr_len_sl Try.underlying27 rfl rfl) rfl rfl ?_
 refine lo rfl (pr_cmp (bo := .lss) (nc_lt (a := n + k) (b := n + 3)) rfl rfl rfl rfl) rfl rfl ?_
 refine L_nil ?_
 refine T_cond (decide (n + k < n + 3)) rfl (fun hc_3 => ?_) (fun hc_3 => ?_)
 ·
  have hc_3 := of_decide_eq_true hc_3
  refine T_skip ?_
  refine T_seq ?_
  refine T_block ?_
  refine T_reg hF rfl ?_
  refine lm rfl rfl rfl rfl rfl ?_
  refine lm rfl rfl rfl rfl rfl ?_
  refine lq rfl (ld_agg (ds := [(.bool d), (.int .i64 (i64 vk)), (.int .i64 (i64 vv)), (.int .i64 (i64 vs))]) 1 rfl agg_all Try.underlying43 rfl kr rfl rfl) rfl rfl ?_
  refine lo rfl (pr_ixb (j := n + k) (m' := (n + k) * 4) sd (by omega) Try.underlying27 (z := 4) kr rfl rfl rfl) rfl rfl ?_
  refine L_op rfl (op_storeR (j := (n + k)) (r := (Rc.mk d vk vv vs)) 0 rfl kr sd rfl rfl rfl rfl ?_)
  refine L_nil ?_
  refine T_reg hF rfl ?_
  refine lm rfl rfl rfl rfl rfl ?_
  refine lo rfl (pr_add (na_i64 (a := n + k) (b := 1) sd) rfl rfl rfl) rfl rfl ?_
  refine la rfl rfl rfl rfl rfl ?_
  refine L_nil ?_
  refine T_slot 7 (.int .i64 ((n + k + 1 : Nat) : Int)) (.int .i64 ((n + (k + 1) : Nat) : Int)) rfl (by congr 1) ?_
  refine T_as 0 _ (.blk g2 43 (rcs (xs ++ (List.replicate (k + 1) (Rc.mk d vk vv vs) ++ List.replicate (3 - (k + 1)) rc0)))) rfl (by rw [ownr_step _ _ _ _ hx (by omega)]) ?_
  exact T_again (k + 1) (by first | trivial | ((try dsimp only); first | omega | (refine ⟨?_, ?_⟩ <;> omega) | (refine ⟨?_, ?_, ?_⟩ <;> omega) | (simp; done) | (simp; omega))) (by first | trivial | ((try dsimp only); first | omega | (refine ⟨?_, ?_⟩ <;> omega) | (refine ⟨?_, ?_, ?_⟩ <;> omega) | (simp; done) | (simp; omega))) (sc rfl (sc rfl (sc rfl (sc rfl sn)))) [0, 1, 2] ⟨by decide, rfl⟩
 ·
  have hc_3 := of_decide_eq_false hc_3
  refine T_exit rfl ?_
  refine Tsr hF rfl ?_
  refine lm rfl rfl rfl rfl rfl ?_
  refine la rfl rfl rfl rfl rfl ?_
  refine L_nil ?_
  refine T_ret ?_
  obtain rfl : 3 = k := by omega
  refine T_slot 4 (.slice (some ⟨g2, 0, none⟩) (0 + n) (n + 3)) (.slice (some ⟨g2, 0, none⟩) n (n + 3)) rfl (by first | rfl | (simp; done)) ?_
  refine T_oldb 0 (zs := (rcs (xs ++ [(Rc.mk d vk vv vs), (Rc.mk d vk vv vs), (Rc.mk d vk vv vs)]))) 0 4 (n + 3) (n + 3) rfl sd (by rw [List.drop_zero, List.take_of_length_le (by rw [rcs_len]; simp; omega)]; rfl) sd sd ?_
  refine T_pre 0 n ((rcs xs)) rfl sd (by rw [rcs_take, ← hx, List.take_left]) ?_
  exact T_fin (some ⟨g2, 0, none⟩, n + 3) (by first | trivial | omega | (simp; done)) (res1 rfl rfl) [1, 0] ⟨by decide, rfl⟩ rfl
set_option maxHeartbeats 4000000 in
theorem rkept_f (xs : List Rc) (A : Option Addr) (n : Nat) (c : Nat) (B : Option Addr) (e : Nat) (d : Bool) (vk : BitVec 64) (vv : BitVec 64) (vs : BitVec 64) (w : World) (hO : HOK [.rd A 4 n c (rcs xs), .rd A 4 (n + 3) c (rcs (xs ++ [(Rc.mk d vk vv vs), (Rc.mk d vk vv vs), (Rc.mk d vk vv vs)])), .rd B 4 n e (rcs xs)] w) (hx : xs.length = n) (hn : n ≤ 1000000) (hc : n + 3 ≤ c) : Calls Try.prog 26 [(.slice A n c), (.slice B n e), (.agg [(.bool d), (.int .i64 (i64 vk)), (.int .i64 (i64 vv)), (.int .i64 (i64 vs))].toArray)].toArray w (Ret (T := Unit) [] w (fun _ => True) (fun _ => (.bool true)) (fun _ => [])) := by
 have hF : Wid Fence.wide := wid_wide
 refine enter (c := _) Try.func26 rfl [] _ [.rd A 4 n c (rcs xs), .rd A 4 (n + 3) c (rcs (xs ++ [(Rc.mk d vk vv vs), (Rc.mk d vk vv vs), (Rc.mk d vk vv vs)])), .rd B 4 n e (rcs xs)] (by rw [Try.ntmps26]; rfl) (own_rds hO rfl) ?_
 rw [Try.ntmps26]
 refine T_re [(0, (.slice A n c)), (1, (.slice B n e)), (2, (.agg [(.bool d), (.int .i64 (i64 vk)), (.int .i64 (i64 vv)), (.int .i64 (i64 vs))].toArray))] (sc rfl (sc rfl (sc rfl sn))) ?_
 refine T_he [0, 1, 2] [.rd A 4 n c (rcs xs), .rd A 4 (n + 3) c (rcs (xs ++ [(Rc.mk d vk vv vs), (Rc.mk d vk vv vs), (Rc.mk d vk vv vs)])), .rd B 4 n e (rcs xs)] ⟨by decide, rfl⟩ ?_
 refine Tsr hF rfl ?_
 refine L_op rfl (op_box (zs := [(.bool d), (.int .i64 (i64 vk)), (.int .i64 (i64 vv)), (.int .i64 (i64 vs))]) rfl rfl rfl rfl rfl (fun g1 => ?_))
 refine la rfl rfl rfl rfl rfl ?_
 refine L_nil ?_
 refine T_seq ?_
 refine Tsr hF rfl ?_
 refine lm rfl rfl rfl rfl rfl ?_
 refine lm rfl rfl rfl rfl rfl ?_
 refine L_op rfl (op_cn (fun w hw => rplain_f xs A n c B e w (hok_cons ((src_rd 1 rfl) w hw) (hok_cons ((src_rd 3 rfl) w hw) (hok_nil w))) sd sd) (enters_of Try.func23 kr rfl) rfl rfl rfl rfl rfl (fun t2 q3 => ?_))
 refine lo rfl (pr_un (v := .bool false) rfl rfl rfl) rfl rfl ?_
 refine lm rfl rfl rfl rfl rfl ?_
 refine lm rfl rfl rfl rfl rfl ?_
 refine lo rfl (pr_cap_sl Try.underlying27 rfl rfl) rfl rfl ?_
 refine lm rfl rfl rfl rfl rfl ?_
 refine lo rfl (pr_len_sl Try.underlying27 rfl rfl) rfl rfl ?_
 refine lo rfl (pr_add (na_i64 (a := n) (b := 3) sd) rfl rfl rfl) rfl rfl ?_
 refine lo rfl (pr_cmp (bo := .lss) (nc_lt (a := c) (b := n + 3)) rfl rfl rfl rfl) rfl rfl ?_
 refine lo rfl (pr_pick_f rfl rfl rfl) rfl rfl ?_
 refine L_nil ?_
 refine T_cond_no (t := decide (c < n + 3)) rfl (by simp; omega) ?_
 refine T_skip ?_
 refine Tsr hF rfl ?_
 refine lm rfl rfl rfl rfl rfl ?_
 refine lm rfl rfl rfl rfl rfl ?_
 refine lo rfl (pr_len_sl Try.underlying27 rfl rfl) rfl rfl ?_
 refine lo rfl (pr_add (na_i64 (a := n) (b := 3) sd) rfl rfl rfl) rfl rfl ?_
 refine L_op rfl (op_slice_rd (l := 0) (u := n + 3) 2 rfl sd sd Try.underlying27 kr rfl rfl rfl ⟨_, rfl⟩ rfl rfl (fun B4 => ?_))
 refine T_as 0 _ (.rd B4 4 (n + 3) c (rcs (List.take (n + 3) (xs ++ [(Rc.mk d vk vv vs), (Rc.mk d vk vv vs), (Rc.mk d vk vv vs)])))) rfl (by rw [rcs_drop, rcs_take]; rfl) ?_
 refine T_slot 25 _ (.slice B4 (n + 3) c) rfl (by congr 1) ?_
 refine la rfl rfl rfl rfl rfl ?_
 refine L_nil ?_
 refine T_seq ?_
 refine Tsr hF rfl ?_
 refine lm rfl rfl rfl rfl rfl ?_
 refine lo rfl (pr_len_sl Try.underlying27 rfl rfl) rfl rfl ?_
 refine la rfl rfl rfl rfl rfl ?_
 refine L_nil ?_
 refine T_block ?_
 refine T_slot 8 (.int .i64 ((n : Nat) : Int)) (.int .i64 ((n + 0 : Nat) : Int)) rfl (by congr 1) ?_
 refine T_loop (T := Nat) (fun k => k ≤ 3) (fun k => [(5, (.pointer (some ⟨g1, 0, none⟩))), (7, (.slice B4 (n + 3) c)), (8, (.int .i64 ((n + k : Nat) : Int)))]) (fun k => [.rd B4 4 (n + 3) c (rcs (List.take (n + 3) (xs ++ [(Rc.mk d vk vv vs), (Rc.mk d vk vv vs), (Rc.mk d vk vv vs)]))), .blk g1 43 [(.bool d), (.int .i64 (i64 vk)), (.int .i64 (i64 vv)), (.int .i64 (i64 vs))], .rd A 4 n c (rcs xs), .rd A 4 (n + 3) c (rcs (xs ++ [(Rc.mk d vk vv vs), (Rc.mk d vk vv vs), (Rc.mk d vk vv vs)])), .rd B 4 n e (rcs xs)]) (fun k => 3 - k) 0 (by first | trivial | ((try dsimp only); first | omega | (refine ⟨?_, ?_⟩ <;> omega) | (refine ⟨?_, ?_, ?_⟩ <;> omega) | (simp; done) | (simp; omega))) (sc rfl (sc rfl (sc rfl sn))) [0, 1, 2, 3, 4] ⟨by decide, rfl⟩ ?_
 rintro k hp
 have hp : k ≤ 3 := hp
 refine T_re [(5, (.pointer (some ⟨g1, 0, none⟩))), (7, (.slice B4 (n + 3) c)), (8, (.int .i64 ((n + k : Nat) : Int)))] (sc rfl (sc rfl (sc rfl sn))) ?_
 refine T_he [0, 1, 2, 3, 4] [.rd B4 4 (n + 3) c (rcs (List.take (n + 3) (xs ++ [(Rc.mk d vk vv vs), (Rc.mk d vk vv vs), (Rc.mk d vk vv vs)]))), .blk g1 43 [(.bool d), (.int .i64 (i64 vk)), (.int .i64 (i64 vv)), (.int .i64 (i64 vs))], .rd A 4 n c (rcs xs), .rd A 4 (n + 3) c (rcs (xs ++ [(Rc.mk d vk vv vs), (Rc.mk d vk vv vs), (Rc.mk d vk vv vs)])), .rd B 4 n e (rcs xs)] ⟨by decide, rfl⟩ ?_
 refine T_seq ?_
 refine Tsr hF rfl ?_
 refine lm rfl rfl rfl rfl rfl ?_
 refine lm rfl rfl rfl rfl rfl ?_
 refine lo rfl (pr_len_sl Try.underlying27 rfl rfl) rfl rfl ?_
 refine lo rfl (pr_cmp (bo := .lss) (nc_lt (a := n + k) (b := n + 3)) rfl rfl rfl rfl) rfl rfl ?_
 refine L_nil ?_
 refine T_cond (decide (n + k < n + 3)) rfl (fun hc_5 => ?_) (fun hc_5 => ?_)
 ·
  have hc_5 := of_decide_eq_true hc_5
  refine T_skip ?_
  refine T_seq ?_
  refine T_block ?_
  refine T_seq ?_
  refine T_regD [.rd B4 4 (n + 3) c (rcs (List.take (n + 3) (xs ++ [(Rc.mk d vk vv vs), (Rc.mk d vk vv vs), (Rc.mk d vk vv vs)]))), .blk g1 43 [(.bool d), (.int .i64 (i64 vk)), (.int .i64 (i64 vv)), (.int .i64 (i64 vs))], .rd A 4 n c (rcs xs), .rd A 4 (n + 3) c (rcs (xs ++ [(Rc.mk d vk vv vs), (Rc.mk d vk vv vs), (Rc.mk d vk vv vs)])), .rd B 4 n e (rcs xs)] 6 6 #[false, false, false, false, false, false] hF kr kr ?_
  refine D_pure (i := 0) [0, 1, 2, 3, 4] rfl kr rfl (pr_move rfl rfl) (.inr rfl) rfl rfl ?_
  refine D_pure (i := 1) [0, 1, 2, 3, 4] rfl kr rfl (pr_move rfl rfl) (.inr rfl) rfl rfl ?_
  refine D_pure (i := 2) [0, 1, 2, 3, 4] rfl kr rfl (pr_ixs (j := n + k) (src_none (src_rd 0 rfl)) sd Try.underlying27 (z := 4) kr rfl rfl rfl) (.inr rfl) rfl rfl ?_
  refine D_take (i := 3) [0, 1, 2, 3, 4] rfl kr rfl (ld_rc (j := (n + k)) (src_rd 0 rfl) sd Try.underlying43 rfl kr rfl rfl) rfl rfl rfl ?_
  refine T_slot 37 _ (.agg [(.bool d), (.int .i64 (i64 vk)), (.int .i64 (i64 vv)), (.int .i64 (i64 vs))].toArray) rfl (by rw [ownr_at xs (Rc.mk d vk vv vs) n k hx (by omega)]) ?_
  refine D_take (i := 4) [0, 1, 2, 3, 4] rfl kr rfl (ld_agg (ds := [(.bool d), (.int .i64 (i64 vk)), (.int .i64 (i64 vv)), (.int .i64 (i64 vs))]) 1 rfl agg_all Try.underlying43 rfl kr rfl rfl) rfl rfl rfl ?_
  refine D_pure (i := 5) [0, 1, 2, 3, 4] rfl kr rfl (pr_eqs (bo := .neq) (c := true) (r := false) (fun _ _ => eqs Try.underlying43 kr (eqt rfl (part1 Try.underlying4 rfl rfl) (part1 Try.underlying4 rfl rfl) (eqv_sb Try.underlying4) (eqt rfl (part1 Try.underlying2 rfl rfl) (part1 Try.underlying2 rfl rfl) (eqv_si Try.underlying2) (eqt rfl (part1 Try.underlying2 rfl rfl) (part1 Try.underlying2 rfl rfl) (eqv_si Try.underlying2) (eqt rfl (part1 Try.underlying2 rfl rfl) (part1 Try.underlying2 rfl rfl) (eqv_si Try.underlying2) eqf_nil))))) kr rfl rfl rfl rfl rfl) (.inr rfl) rfl rfl ?_
  refine D_done kr ?_
  refine T_cond_f rfl ?_
  refine T_skip ?_
  refine T_reg hF rfl ?_
  refine lm rfl rfl rfl rfl rfl ?_
  refine lo rfl (pr_add (na_i64 (a := n + k) (b := 1) sd) rfl rfl rfl) rfl rfl ?_
  refine la rfl rfl rfl rfl rfl ?_
  refine L_nil ?_
  refine T_slot 8 (.int .i64 ((n + k + 1 : Nat) : Int)) (.int .i64 ((n + (k + 1) : Nat) : Int)) rfl (by congr 1) ?_
  exact T_again (k + 1) (by first | trivial | ((try dsimp only); first | omega | (refine ⟨?_, ?_⟩ <;> omega) | (refine ⟨?_, ?_, ?_⟩ <;> omega) | (simp; done) | (simp; omega))) (by first | trivial | ((try dsimp only); first | omega | (refine ⟨?_, ?_⟩ <;> omega) | (refine ⟨?_, ?_, ?_⟩ <;> omega) | (simp; done) | (simp; omega))) (sc rfl (sc rfl (sc rfl sn))) [0, 1, 2, 3, 4] ⟨by decide, rfl⟩
 ·
  have hc_5 := of_decide_eq_false hc_5
  refine T_exit rfl ?_
  refine Tsr hF rfl ?_
  refine la rfl rfl rfl rfl rfl ?_
  refine L_nil ?_
  refine T_ret ?_
  exact T_fin () (by first | trivial | omega | (simp; done)) (res1 rfl rfl) [] ⟨by decide, rfl⟩ rfl
end Go.Proofs.Ytlplpmkdebemnaa
