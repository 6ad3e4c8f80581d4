/- What the helpers of the statements answer, by facts. Conditions: lengths below 10^13. -/
import Derived.Test.YtlplpmkdebemnaaGCat
import Derived.Test.YtlplpmkdebemnaaProg
import Derived.Test.YtlplpmkdebemnaaFwU
namespace Go.Proofs.Ytlplpmkdebemnaa
set_option linter.unusedVariables false
set_option linter.unusedSimpArgs false
set_option linter.unnecessarySimpa false
set_option maxRecDepth 100000
open Go.RowKit Bv Fw

theorem own_step (xs : List (BitVec 8)) (f : BitVec 8) (n k : Nat) (hx : xs.length = n) (hk : k < 3) : (xs ++ (List.replicate k f ++ List.replicate (3 - k) 0#8)).set (n + k) f = xs ++ (List.replicate (k + 1) f ++ List.replicate (3 - (k + 1)) 0#8) := by
  subst hx
  rcases (by omega : k = 0 ∨ k = 1 ∨ k = 2) with rfl | rfl | rfl <;> simp [List.set_append_right, List.replicate]
theorem own_at (xs : List (BitVec 8)) (f : BitVec 8) (n k : Nat) (hx : xs.length = n) (hk : k < 3) : ath (List.take (n + 3) (xs ++ [f, f, f])) (n + k) = f := by
  subst hx
  unfold ath
  rcases (by omega : k = 0 ∨ k = 1 ∨ k = 2) with rfl | rfl | rfl <;> simp [List.getD_eq_getElem?_getD, List.getElem?_take, List.getElem?_append_right]

set_option maxHeartbeats 4000000 in
theorem bytes_f (xs : List (BitVec 8)) (ys : List (BitVec 8)) (A : Option Addr) (n : Nat) (c : Nat) (B : Option Addr) (m : Nat) (d : Nat) (w : World) (hO : HOK [.rd A 1 n c (xs.map b8), .rd B 1 m d (ys.map b8)] w)  : Calls Try.prog 15 [(.slice A n c), (.slice B m d)].toArray w (Ret (T := Unit) [] w (fun _ => True) (fun _ => (.bool (decide (xs = ys)))) (fun _ => [])) := by
 have hF : Wid Fence.wide := wid_wide
 refine enter (c := _) Try.func15 rfl [] _ [.rd A 1 n c (xs.map b8), .rd B 1 m d (ys.map b8)] (by rw [Try.ntmps15]; rfl) (own_rds hO rfl) ?_
 rw [Try.ntmps15]
 refine T_re [(0, (.slice A n c)), (1, (.slice B m d))] (sc rfl (sc rfl sn)) ?_
 refine T_he [0, 1] [.rd A 1 n c (xs.map b8), .rd B 1 m d (ys.map b8)] ⟨by decide, rfl⟩ ?_
 refine Tsr hF rfl ?_
 refine la rfl rfl rfl rfl rfl ?_
 refine L_nil ?_
 refine Tsr hF rfl ?_
 refine lm rfl rfl rfl rfl rfl ?_
 refine lq rfl (ld_str (xs := xs) (src_rd 0 rfl) Try.underlying23 Try.underlying5 Try.underlying9 rfl rfl) rfl rfl ?_
 refine lm rfl rfl rfl rfl rfl ?_
 refine lq rfl (ld_str (xs := ys) (src_rd 1 rfl) Try.underlying23 Try.underlying5 Try.underlying9 rfl rfl) rfl rfl ?_
 refine lo rfl (pr_streq rfl rfl rfl) rfl rfl ?_
 refine la rfl rfl rfl rfl rfl ?_
 refine L_nil ?_
 refine T_ret ?_
 exact T_fin () (by first | trivial | omega | (simp; done)) (res1 rfl rfl) [] ⟨by decide, rfl⟩ rfl
set_option maxHeartbeats 4000000 in
theorem plain1_f (x : BitVec 8) (y : BitVec 8) (w : World) (hO : HOK [] w)  : Calls Try.prog 64 [(b8 x), (b8 y)].toArray w (Ret (T := Unit) [] w (fun _ => True) (fun _ => (.bool (x == y))) (fun _ => [])) := by
 have hF : Wid Fence.wide := wid_wide
 refine enter (c := _) Try.func64 rfl [] _ [] (by rw [Try.ntmps64]; rfl) (own_rds hO rfl) ?_
 rw [Try.ntmps64]
 refine T_re [(0, (b8 x)), (1, (b8 y))] (sc rfl (sc rfl sn)) ?_
 refine T_he [] [] ⟨by decide, rfl⟩ ?_
 refine Tsr hF rfl ?_
 refine la rfl rfl rfl rfl rfl ?_
 refine L_nil ?_
 refine Tsr hF rfl ?_
 refine lm rfl rfl rfl rfl rfl ?_
 refine lm rfl rfl rfl rfl rfl ?_
 refine lo rfl (pr_cmp (bo := .eql) (n8_beq x y) rfl rfl rfl rfl) rfl rfl ?_
 refine la rfl rfl rfl rfl rfl ?_
 refine L_nil ?_
 refine T_ret ?_
 exact T_fin () (by first | trivial | omega | (simp; done)) (res1 rfl rfl) [] ⟨by decide, rfl⟩ rfl
set_option maxHeartbeats 4000000 in
theorem same_f (xs : List (BitVec 8)) (A : Option Addr) (n : Nat) (c : Nat) (B : Option Addr) (d : Nat) (w : World) (hO : HOK [.rd A 1 n c (xs.map b8), .rd B 1 n d (xs.map b8)] w) (hx : xs.length = n) (hn : n ≤ 10000000000000) : Calls Try.prog 63 [(.slice A n c), (.slice B n d), (.func (.func 64) #[] [].toArray)].toArray w (Ret (T := Unit) [] w (fun _ => True) (fun _ => (.bool true)) (fun _ => [])) := by
 have hF : Wid Fence.wide := wid_wide
 refine enter (c := _) Try.func63 rfl [] _ [.rd A 1 n c (xs.map b8), .rd B 1 n d (xs.map b8)] (by rw [Try.ntmps63]; rfl) (own_rds hO rfl) ?_
 rw [Try.ntmps63]
 refine T_re [(0, (.slice A n c)), (1, (.slice B n d)), (2, (.func (.func 64) #[] [].toArray))] (sc rfl (sc rfl (sc rfl sn))) ?_
 refine T_he [0, 1] [.rd A 1 n c (xs.map b8), .rd B 1 n d (xs.map b8)] ⟨by decide, rfl⟩ ?_
 refine Tsr hF rfl ?_
 refine la rfl rfl rfl rfl rfl ?_
 refine L_nil ?_
 refine T_seq ?_
 refine Tsr hF rfl ?_
 refine lm rfl rfl rfl rfl rfl ?_
 refine lo rfl (pr_len_sl Try.underlying23 rfl rfl) rfl rfl ?_
 refine lm rfl rfl rfl rfl rfl ?_
 refine lo rfl (pr_len_sl Try.underlying23 rfl rfl) rfl rfl ?_
 refine lo rfl (pr_cmp (bo := .neq) (nc_ne (a := n) (b := n)) rfl rfl rfl rfl) rfl rfl ?_
 refine L_nil ?_
 refine T_cond_no (t := (n != n)) rfl (by simp) ?_
 refine T_skip ?_
 refine T_seq ?_
 refine Tsr hF rfl ?_
 refine la rfl rfl rfl rfl rfl ?_
 refine L_nil ?_
 refine T_block ?_
 refine T_loop (T := Nat) (fun k => k ≤ n) (fun k => [(0, (.slice A n c)), (1, (.slice B n d)), (2, (.func (.func 64) #[] [].toArray)), (7, (.int .i64 ((k : Nat) : Int)))]) (fun k => [.rd A 1 n c (xs.map b8), .rd B 1 n d (xs.map b8)]) (fun k => n - k) 0 (by first | trivial | ((try dsimp only); first | omega | (refine ⟨?_, ?_⟩ <;> omega) | (refine ⟨?_, ?_, ?_⟩ <;> omega) | (simp; done) | (simp; omega))) (sc rfl (sc rfl (sc rfl (sc rfl sn)))) [0, 1] ⟨by decide, rfl⟩ ?_
 rintro k hp
 have hp : k ≤ n := hp
 refine T_re [(0, (.slice A n c)), (1, (.slice B n d)), (2, (.func (.func 64) #[] [].toArray)), (7, (.int .i64 ((k : Nat) : Int)))] (sc rfl (sc rfl (sc rfl (sc rfl sn)))) ?_
 refine T_he [0, 1] [.rd A 1 n c (xs.map b8), .rd B 1 n d (xs.map b8)] ⟨by decide, rfl⟩ ?_
 refine T_seq ?_
 refine Tsr hF rfl ?_
 refine lm rfl rfl rfl rfl rfl ?_
 refine lm rfl rfl rfl rfl rfl ?_
 refine lo rfl (pr_len_sl Try.underlying23 rfl rfl) rfl rfl ?_
 refine lo rfl (pr_cmp (bo := .lss) (nc_lt (a := k) (b := n)) rfl rfl rfl rfl) rfl rfl ?_
 refine L_nil ?_
 refine T_cond (decide (k < n)) rfl (fun hc_1 => ?_) (fun hc_1 => ?_)
 ·
  have hc_1 := of_decide_eq_true hc_1
  refine T_skip ?_
  refine T_seq ?_
  refine T_block ?_
  refine T_seq ?_
  refine T_regD [.rd A 1 n c (xs.map b8), .rd B 1 n d (xs.map b8)] 11 11 #[false, false, false, false, false, false, false, false, false, false, false] hF kr kr ?_
  refine D_pure (i := 0) [0, 1] rfl kr rfl (pr_move rfl rfl) (.inr rfl) rfl rfl ?_
  refine D_pure (i := 1) [0, 1] rfl kr rfl (pr_move rfl rfl) (.inr rfl) rfl rfl ?_
  refine D_pure (i := 2) [0, 1] rfl kr rfl (pr_move rfl rfl) (.inr rfl) rfl rfl ?_
  refine D_pure (i := 3) [0, 1] rfl kr rfl (pr_ixs1 (j := k) (src_none (src_rd 0 rfl)) sd Try.underlying23 kr rfl rfl rfl) (.inr rfl) rfl rfl ?_
  refine D_pure (i := 5) [0, 1] rfl kr rfl (pr_move rfl rfl) (.inr rfl) rfl rfl ?_
  refine D_pure (i := 6) [0, 1] rfl kr rfl (pr_move rfl rfl) (.inr rfl) rfl rfl ?_
  refine D_pure (i := 7) [0, 1] rfl kr rfl (pr_ixs1 (j := k) (src_none (src_rd 1 rfl)) sd Try.underlying23 kr rfl rfl rfl) (.inr rfl) rfl rfl ?_
  refine D_take (i := 4) [0, 1] rfl kr rfl (ld_src (m := k) (src_rd 0 rfl) (get8 sd) Try.underlying5 rfl rfl rfl) rfl rfl rfl ?_
  refine D_take (i := 8) [0, 1] rfl kr rfl (ld_src (m := k) (src_rd 1 rfl) (get8 sd) Try.underlying5 rfl rfl rfl) rfl rfl rfl ?_
  refine D_one 9 _ rfl kr rfl (op_cn (fun w hw => plain1_f (ath xs k) (ath xs k) w (hok_nil w) ) (enters_of Try.func64 kr rfl) rfl rfl rfl rfl rfl (fun t2 q3 => ?_))
  refine D_on [0, 1] rfl ?_
  refine D_pure (i := 10) [0, 1] rfl kr rfl (pr_un rfl rfl rfl) (.inr rfl) rfl rfl ?_
  refine D_done kr ?_
  refine T_cond_no (t := !((ath xs k) == (ath xs k))) rfl (by simp) ?_
  refine T_skip ?_
  refine T_reg hF rfl ?_
  refine lm rfl rfl rfl rfl rfl ?_
  refine lo rfl (pr_add (na_i64 (a := k) (b := 1) sd) rfl rfl rfl) rfl rfl ?_
  refine la rfl rfl rfl rfl rfl ?_
  refine L_nil ?_
  exact T_again (k + 1) (by first | trivial | ((try dsimp only); first | omega | (refine ⟨?_, ?_⟩ <;> omega) | (refine ⟨?_, ?_, ?_⟩ <;> omega) | (simp; done) | (simp; omega))) (by first | trivial | ((try dsimp only); first | omega | (refine ⟨?_, ?_⟩ <;> omega) | (refine ⟨?_, ?_, ?_⟩ <;> omega) | (simp; done) | (simp; omega))) (sc rfl (sc rfl (sc rfl (sc rfl sn)))) [0, 1] ⟨by decide, rfl⟩
 ·
  have hc_1 := of_decide_eq_false hc_1
  refine T_exit rfl ?_
  refine Tsr hF rfl ?_
  refine la rfl rfl rfl rfl rfl ?_
  refine L_nil ?_
  refine T_ret ?_
  exact T_fin () (by first | trivial | omega | (simp; done)) (res1 rfl rfl) [] ⟨by decide, rfl⟩ rfl
set_option maxHeartbeats 4000000 in
theorem plain_f (xs : List (BitVec 8)) (A : Option Addr) (n : Nat) (c : Nat) (B : Option Addr) (d : Nat) (w : World) (hO : HOK [.rd A 1 n c (xs.map b8), .rd B 1 n d (xs.map b8)] w) (hx : xs.length = n) (hn : n ≤ 10000000000000) : Calls Try.prog 40 [(.slice A n c), (.slice B n d)].toArray w (Ret (T := Unit) [] w (fun _ => True) (fun _ => (.bool true)) (fun _ => [])) := by
 have hF : Wid Fence.wide := wid_wide
 refine enter (c := _) Try.func40 rfl [] _ [.rd A 1 n c (xs.map b8), .rd B 1 n d (xs.map b8)] (by rw [Try.ntmps40]; rfl) (own_rds hO rfl) ?_
 rw [Try.ntmps40]
 refine T_re [(0, (.slice A n c)), (1, (.slice B n d))] (sc rfl (sc rfl sn)) ?_
 refine T_he [0, 1] [.rd A 1 n c (xs.map b8), .rd B 1 n d (xs.map b8)] ⟨by decide, rfl⟩ ?_
 refine Tsr hF rfl ?_
 refine la rfl rfl rfl rfl rfl ?_
 refine L_nil ?_
 refine Tsr hF rfl ?_
 refine lm rfl rfl rfl rfl rfl ?_
 refine lm rfl rfl rfl rfl rfl ?_
 refine L_op rfl (op_cn (fun w hw => same_f xs A n c B d w (hok_cons ((src_rd 0 rfl) w hw) (hok_cons ((src_rd 1 rfl) w hw) (hok_nil w))) sd sd) (enters_of Try.func63 kr rfl) rfl rfl rfl rfl rfl (fun t1 q2 => ?_))
 refine la rfl rfl rfl rfl rfl ?_
 refine L_nil ?_
 refine T_ret ?_
 exact T_fin () (by first | trivial | omega | (simp; done)) (res1 rfl rfl) [] ⟨by decide, rfl⟩ rfl
set_option maxHeartbeats 4000000 in
theorem own_f (xs : List (BitVec 8)) (f : BitVec 8) (A : Option Addr) (n : Nat) (c : Nat) (w : World) (hO : HOK [.rd A 1 n c (xs.map b8)] w) (hx : xs.length = n) (hn : n ≤ 10000000000000) : Calls Try.prog 12 [(.slice A n c), (b8 f)].toArray w (Ret (T := Option Addr × Nat) [] w (fun ⟨B, d⟩ => n + 3 ≤ d) (fun ⟨B, d⟩ => (.slice B n d)) (fun ⟨B, d⟩ => [.old B 1 (n + 3) d ((xs ++ [f, f, f]).map b8), .old B 1 n d (xs.map b8)])) := by
 have hF : Wid Fence.wide := wid_wide
 refine enter (c := _) Try.func12 rfl [] _ [.rd A 1 n c (xs.map b8)] (by rw [Try.ntmps12]; rfl) (own_rds hO rfl) ?_
 rw [Try.ntmps12]
 refine T_re [(0, (.slice A n c)), (1, (b8 f))] (sc rfl (sc rfl sn)) ?_
 refine T_he [0] [.rd A 1 n c (xs.map b8)] ⟨by decide, rfl⟩ ?_
 refine Tsr hF rfl ?_
 refine la rfl rfl rfl rfl rfl ?_
 refine L_nil ?_
 refine Tsr hF rfl ?_
 refine lm rfl rfl rfl rfl rfl ?_
 refine lo rfl (pr_len_sl Try.underlying23 rfl rfl) rfl rfl ?_
 refine lo rfl (pr_add (na_i64 (a := n) (b := 3) sd) rfl rfl rfl) rfl rfl ?_
 refine L_op rfl (op_make (z := (b8 (0#8))) (n := 0) (c := n + 3) Try.underlying23 (bytes := 1) kr rfl sd sd sd rfl rfl rfl rfl rfl (fun g1 => ?_))
 refine T_as 0 _ (.blk g1 5 ((List.replicate (n + 3) 0#8).map b8)) rfl (by rw [List.map_replicate]) ?_
 refine la rfl rfl rfl rfl rfl ?_
 refine L_nil ?_
 refine Tsr hF rfl ?_
 refine lm rfl rfl rfl rfl rfl ?_
 refine lm rfl rfl rfl rfl rfl ?_
 refine L_op rfl (op_app_room (cs' := ((xs ++ (List.replicate 0 f ++ List.replicate (3 - 0) 0#8)).map b8)) 0 rfl Try.underlying23 kr (src_rd 1 rfl) (all8_one _) sd sd (by simp) rfl rfl rfl rfl rfl ?_)
 refine la rfl rfl rfl rfl rfl ?_
 refine L_nil ?_
 refine Tsr hF rfl ?_
 refine lm rfl rfl rfl rfl rfl ?_
 refine lm rfl rfl rfl rfl rfl ?_
 refine lo rfl (pr_len_sl Try.underlying23 rfl rfl) rfl rfl ?_
 refine lo rfl (pr_add (na_i64 (a := n) (b := 3) sd) rfl rfl rfl) rfl rfl ?_
 refine lo rfl (pr_slup (u := n + 3) sd Try.underlying23 (z := 1) kr rfl rfl rfl) rfl rfl ?_
 refine la rfl rfl rfl rfl rfl ?_
 refine L_nil ?_
 refine T_seq ?_
 refine Tsr hF rfl ?_
 refine lm rfl rfl rfl rfl rfl ?_
 refine lo rfl (pr_len_sl Try.underlying23 rfl rfl) rfl rfl ?_
 refine la rfl rfl rfl rfl rfl ?_
 refine L_nil ?_
 refine T_block ?_
 refine T_slot 7 (.int .i64 ((n : Nat) : Int)) (.int .i64 ((n + 0 : Nat) : Int)) rfl (by congr 1) ?_
 refine T_loop (T := Nat) (fun k => k ≤ 3) (fun k => [(1, (b8 f)), (5, (.slice (some ⟨g1, 0, none⟩) (0 + n) (n + 3))), (6, (.slice (some ⟨g1, 0, none⟩) (n + 3) (n + 3))), (7, (.int .i64 ((n + k : Nat) : Int)))]) (fun k => [.blk g1 5 ((xs ++ (List.replicate k f ++ List.replicate (3 - k) 0#8)).map b8), .rd A 1 n c (xs.map b8)]) (fun k => 3 - k) 0 (by first | trivial | ((try dsimp only); first | omega | (refine ⟨?_, ?_⟩ <;> omega) | (refine ⟨?_, ?_, ?_⟩ <;> omega) | (simp; done) | (simp; omega))) (sc rfl (sc rfl (sc rfl (sc rfl sn)))) [0, 1] ⟨by decide, rfl⟩ ?_
 rintro k hp
 have hp : k ≤ 3 := hp
 refine T_re [(1, (b8 f)), (5, (.slice (some ⟨g1, 0, none⟩) (0 + n) (n + 3))), (6, (.slice (some ⟨g1, 0, none⟩) (n + 3) (n + 3))), (7, (.int .i64 ((n + k : Nat) : Int)))] (sc rfl (sc rfl (sc rfl (sc rfl sn)))) ?_
 refine T_he [0, 1] [.blk g1 5 ((xs ++ (List.replicate k f ++ List.replicate (3 - k) 0#8)).map b8), .rd A 1 n c (xs.map b8)] ⟨by decide, rfl⟩ ?_
 refine T_seq ?_
 refine Tsr hF rfl ?_
 refine lm rfl rfl rfl rfl rfl ?_
 refine lm rfl rfl rfl rfl rfl ?_
 refine lo rfl (pr_len_sl Try.underlying23 rfl rfl) rfl rfl ?_
 refine lo rfl (pr_cmp (bo := .lss) (nc_lt (a := n + k) (b := n + 3)) rfl rfl rfl rfl) rfl rfl ?_
 refine L_nil ?_
 refine T_cond (decide (n + k < n + 3)) rfl (fun hc_2 => ?_) (fun hc_2 => ?_)
 ·
  have hc_2 := of_decide_eq_true hc_2
  refine T_skip ?_
  refine T_seq ?_
  refine T_block ?_
  refine T_reg hF rfl ?_
  refine lm rfl rfl rfl rfl rfl ?_
  refine lm rfl rfl rfl rfl rfl ?_
  refine lm rfl rfl rfl rfl rfl ?_
  refine lo rfl (pr_ixb (j := n + k) (m' := n + k) sd (by omega) Try.underlying23 (z := 1) kr rfl rfl rfl) rfl rfl ?_
  refine L_op rfl (op_store (vs := [(b8 f)]) (cs' := ((List.set (xs ++ (List.replicate k f ++ List.replicate (3 - k) 0#8)) (n + k) f).map b8)) 0 rfl rfl kr (one_one rfl) (stl sd) (splice_map (f := b8) sd) rfl rfl rfl rfl ?_)
  refine L_nil ?_
  refine T_reg hF rfl ?_
  refine lm rfl rfl rfl rfl rfl ?_
  refine lo rfl (pr_add (na_i64 (a := n + k) (b := 1) sd) rfl rfl rfl) rfl rfl ?_
  refine la rfl rfl rfl rfl rfl ?_
  refine L_nil ?_
  refine T_slot 7 (.int .i64 ((n + k + 1 : Nat) : Int)) (.int .i64 ((n + (k + 1) : Nat) : Int)) rfl (by congr 1) ?_
  refine T_as 0 _ (.blk g1 5 ((xs ++ (List.replicate (k + 1) f ++ List.replicate (3 - (k + 1)) 0#8)).map b8)) rfl (by rw [own_step _ _ _ _ hx (by omega)]) ?_
  exact T_again (k + 1) (by first | trivial | ((try dsimp only); first | omega | (refine ⟨?_, ?_⟩ <;> omega) | (refine ⟨?_, ?_, ?_⟩ <;> omega) | (simp; done) | (simp; omega))) (by first | trivial | ((try dsimp only); first | omega | (refine ⟨?_, ?_⟩ <;> omega) | (refine ⟨?_, ?_, ?_⟩ <;> omega) | (simp; done) | (simp; omega))) (sc rfl (sc rfl (sc rfl (sc rfl sn)))) [0, 1] ⟨by decide, rfl⟩
 ·
  have hc_2 := of_decide_eq_false hc_2
  refine T_exit rfl ?_
  refine Tsr hF rfl ?_
  refine lm rfl rfl rfl rfl rfl ?_
  refine la rfl rfl rfl rfl rfl ?_
  refine L_nil ?_
  refine T_ret ?_
  obtain rfl : 3 = k := by omega
  refine T_slot 4 (.slice (some ⟨g1, 0, none⟩) (0 + n) (n + 3)) (.slice (some ⟨g1, 0, none⟩) n (n + 3)) rfl (by first | rfl | (simp; done)) ?_
  refine T_oldb 0 (zs := ((xs ++ [f, f, f]).map b8)) 0 1 (n + 3) (n + 3) rfl sd (by rw [List.drop_zero, List.take_of_length_le (by simp; omega)]; rfl) sd sd ?_
  refine T_pre 0 n ((xs.map b8)) rfl sd (by rw [← List.map_take, Nat.mul_one, ← hx, List.take_left]) ?_
  exact T_fin (some ⟨g1, 0, none⟩, n + 3) (by first | trivial | omega | (simp; done)) (res1 rfl rfl) [1, 0] ⟨by decide, rfl⟩ rfl
set_option maxHeartbeats 4000000 in
theorem kept_f (xs : List (BitVec 8)) (f : BitVec 8) (A : Option Addr) (n : Nat) (c : Nat) (B : Option Addr) (d : Nat) (w : World) (hO : HOK [.rd A 1 n c (xs.map b8), .rd A 1 (n + 3) c ((xs ++ [f, f, f]).map b8), .rd B 1 n d (xs.map b8)] w) (hx : xs.length = n) (hn : n ≤ 10000000000000) (hc : n + 3 ≤ c) : Calls Try.prog 18 [(.slice A n c), (.slice B n d), (b8 f)].toArray w (Ret (T := Unit) [] w (fun _ => True) (fun _ => (.bool true)) (fun _ => [])) := by
 have hF : Wid Fence.wide := wid_wide
 refine enter (c := _) Try.func18 rfl [] _ [.rd A 1 n c (xs.map b8), .rd A 1 (n + 3) c ((xs ++ [f, f, f]).map b8), .rd B 1 n d (xs.map b8)] (by rw [Try.ntmps18]; rfl) (own_rds hO rfl) ?_
 rw [Try.ntmps18]
 refine T_re [(0, (.slice A n c)), (1, (.slice B n d)), (2, (b8 f))] (sc rfl (sc rfl (sc rfl sn))) ?_
 refine T_he [0, 1, 2] [.rd A 1 n c (xs.map b8), .rd A 1 (n + 3) c ((xs ++ [f, f, f]).map b8), .rd B 1 n d (xs.map b8)] ⟨by decide, rfl⟩ ?_
 refine Tsr hF rfl ?_
 refine la rfl rfl rfl rfl rfl ?_
 refine L_nil ?_
 refine T_seq ?_
 refine Tsr hF rfl ?_
 refine lm rfl rfl rfl rfl rfl ?_
 refine lm rfl rfl rfl rfl rfl ?_
 refine L_op rfl (op_cn (fun w hw => plain_f xs A n c B d w (hok_cons ((src_rd 0 rfl) w hw) (hok_cons ((src_rd 2 rfl) w hw) (hok_nil w))) sd sd) (enters_of Try.func40 kr rfl) rfl rfl rfl rfl rfl (fun t1 q2 => ?_))
 refine lo rfl (pr_un (v := .bool false) rfl rfl rfl) rfl rfl ?_
 refine lm rfl rfl rfl rfl rfl ?_
 refine lm rfl rfl rfl rfl rfl ?_
 refine lo rfl (pr_cap_sl Try.underlying23 rfl rfl) rfl rfl ?_
 refine lm rfl rfl rfl rfl rfl ?_
 refine lo rfl (pr_len_sl Try.underlying23 rfl rfl) rfl rfl ?_
 refine lo rfl (pr_add (na_i64 (a := n) (b := 3) sd) rfl rfl rfl) rfl rfl ?_
 refine lo rfl (pr_cmp (bo := .lss) (nc_lt (a := c) (b := n + 3)) rfl rfl rfl rfl) rfl rfl ?_
 refine lo rfl (pr_pick_f rfl rfl rfl) rfl rfl ?_
 refine L_nil ?_
 refine T_cond_no (t := decide (c < n + 3)) rfl (by simp; omega) ?_
 refine T_skip ?_
 refine Tsr hF rfl ?_
 refine lm rfl rfl rfl rfl rfl ?_
 refine lm rfl rfl rfl rfl rfl ?_
 refine lo rfl (pr_len_sl Try.underlying23 rfl rfl) rfl rfl ?_
 refine lo rfl (pr_add (na_i64 (a := n) (b := 3) sd) rfl rfl rfl) rfl rfl ?_
 refine L_op rfl (op_slice_rd (l := 0) (u := n + 3) 1 rfl sd sd Try.underlying23 kr rfl rfl rfl ⟨_, rfl⟩ rfl rfl (fun B3 => ?_))
 refine T_as 0 _ (.rd B3 1 (n + 3) c ((List.take (n + 3) (xs ++ [f, f, f])).map b8)) rfl (by congr 1; simp [List.map_take, List.map_drop] <;> omega) ?_
 refine T_slot 25 _ (.slice B3 (n + 3) c) rfl (by congr 1) ?_
 refine la rfl rfl rfl rfl rfl ?_
 refine L_nil ?_
 refine T_seq ?_
 refine Tsr hF rfl ?_
 refine lm rfl rfl rfl rfl rfl ?_
 refine lo rfl (pr_len_sl Try.underlying23 rfl rfl) rfl rfl ?_
 refine la rfl rfl rfl rfl rfl ?_
 refine L_nil ?_
 refine T_block ?_
 refine T_slot 8 (.int .i64 ((n : Nat) : Int)) (.int .i64 ((n + 0 : Nat) : Int)) rfl (by congr 1) ?_
 refine T_loop (T := Nat) (fun k => k ≤ 3) (fun k => [(2, (b8 f)), (7, (.slice B3 (n + 3) c)), (8, (.int .i64 ((n + k : Nat) : Int)))]) (fun k => [.rd B3 1 (n + 3) c ((List.take (n + 3) (xs ++ [f, f, f])).map b8), .rd A 1 n c (xs.map b8), .rd A 1 (n + 3) c ((xs ++ [f, f, f]).map b8), .rd B 1 n d (xs.map b8)]) (fun k => 3 - k) 0 (by first | trivial | ((try dsimp only); first | omega | (refine ⟨?_, ?_⟩ <;> omega) | (refine ⟨?_, ?_, ?_⟩ <;> omega) | (simp; done) | (simp; omega))) (sc rfl (sc rfl (sc rfl sn))) [0, 1, 2, 3] ⟨by decide, rfl⟩ ?_
 rintro k hp
 have hp : k ≤ 3 := hp
 refine T_re [(2, (b8 f)), (7, (.slice B3 (n + 3) c)), (8, (.int .i64 ((n + k : Nat) : Int)))] (sc rfl (sc rfl (sc rfl sn))) ?_
 refine T_he [0, 1, 2, 3] [.rd B3 1 (n + 3) c ((List.take (n + 3) (xs ++ [f, f, f])).map b8), .rd A 1 n c (xs.map b8), .rd A 1 (n + 3) c ((xs ++ [f, f, f]).map b8), .rd B 1 n d (xs.map b8)] ⟨by decide, rfl⟩ ?_
 refine T_seq ?_
 refine Tsr hF rfl ?_
 refine lm rfl rfl rfl rfl rfl ?_
 refine lm rfl rfl rfl rfl rfl ?_
 refine lo rfl (pr_len_sl Try.underlying23 rfl rfl) rfl rfl ?_
 refine lo rfl (pr_cmp (bo := .lss) (nc_lt (a := n + k) (b := n + 3)) rfl rfl rfl rfl) rfl rfl ?_
 refine L_nil ?_
 refine T_cond (decide (n + k < n + 3)) rfl (fun hc_4 => ?_) (fun hc_4 => ?_)
 ·
  have hc_4 := of_decide_eq_true hc_4
  refine T_skip ?_
  refine T_seq ?_
  refine T_block ?_
  refine Tsr hF rfl ?_
  refine lm rfl rfl rfl rfl rfl ?_
  refine lm rfl rfl rfl rfl rfl ?_
  refine lo rfl (pr_ixs1 (j := n + k) (src_none (src_rd 0 rfl)) sd Try.underlying23 kr rfl rfl rfl) rfl rfl ?_
  refine lq rfl (ld_src (m := n + k) (src_rd 0 rfl) (get8 sd) Try.underlying5 rfl rfl rfl) rfl rfl ?_
  refine lm rfl rfl rfl rfl rfl ?_
  refine lo rfl (pr_cmp (bo := .neq) (n8_bne (ath (List.take (n + 3) (xs ++ [f, f, f])) (n + k)) f) rfl rfl rfl rfl) rfl rfl ?_
  refine L_nil ?_
  refine T_cond_no (t := ((ath (List.take (n + 3) (xs ++ [f, f, f])) (n + k)) != f)) rfl (by rw [own_at xs f n k hx (by omega)]; simp) ?_
  refine T_skip ?_
  refine T_reg hF rfl ?_
  refine lm rfl rfl rfl rfl rfl ?_
  refine lo rfl (pr_add (na_i64 (a := n + k) (b := 1) sd) rfl rfl rfl) rfl rfl ?_
  refine la rfl rfl rfl rfl rfl ?_
  refine L_nil ?_
  refine T_slot 8 (.int .i64 ((n + k + 1 : Nat) : Int)) (.int .i64 ((n + (k + 1) : Nat) : Int)) rfl (by congr 1) ?_
  exact T_again (k + 1) (by first | trivial | ((try dsimp only); first | omega | (refine ⟨?_, ?_⟩ <;> omega) | (refine ⟨?_, ?_, ?_⟩ <;> omega) | (simp; done) | (simp; omega))) (by first | trivial | ((try dsimp only); first | omega | (refine ⟨?_, ?_⟩ <;> omega) | (refine ⟨?_, ?_, ?_⟩ <;> omega) | (simp; done) | (simp; omega))) (sc rfl (sc rfl (sc rfl sn))) [0, 1, 2, 3] ⟨by decide, rfl⟩
 ·
  have hc_4 := of_decide_eq_false hc_4
  refine T_exit rfl ?_
  refine Tsr hF rfl ?_
  refine la rfl rfl rfl rfl rfl ?_
  refine L_nil ?_
  refine T_ret ?_
  exact T_fin () (by first | trivial | omega | (simp; done)) (res1 rfl rfl) [] ⟨by decide, rfl⟩ rfl
end Go.Proofs.Ytlplpmkdebemnaa
