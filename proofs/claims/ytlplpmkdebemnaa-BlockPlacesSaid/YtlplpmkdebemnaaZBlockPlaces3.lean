/- Walks by facts, part 3: what the functions that the law reaches answer. No conditions but lengths. -/
import Derived.Test.YtlplpmkdebemnaaZBlockPlaces2
import Derived.Test.YtlplpmkdebemnaaProg
namespace Go.Proofs.Ytlplpmkdebemnaa
set_option linter.unusedVariables false
set_option linter.unusedSimpArgs false
set_option linter.unnecessarySimpa false
set_option maxRecDepth 100000
open Go.RowKit Bv Fw

set_option maxHeartbeats 4000000 in
theorem grow_f (n : Nat) (w : World) (hO : HOK [] w) (hn : n ≤ 100000000000000) : Calls Try.prog 99 [(.slice none 0 0), (.int .i64 ((n : Nat) : Int))].toArray w (Ret (T := Option Addr × Nat) [] w (fun ⟨B, d⟩ => True) (fun ⟨B, d⟩ => (.slice B 0 d)) (fun ⟨B, d⟩ => [.row (.slice B 0 d) 5 1 0 []])) := by
 have hF : Wid Fence.wide := wid_wide
 refine enter (c := _) Try.func99 rfl [] _ [] (by rw [Try.ntmps99]; rfl) (own_rds hO rfl) ?_
 rw [Try.ntmps99]
 refine T_re [(0, (.slice none 0 0)), (1, (.int .i64 ((n : Nat) : Int)))] (sc rfl (sc rfl sn)) ?_
 refine T_he [] [] ⟨by decide, rfl⟩ ?_
 refine Tsr hF rfl ?_
 refine la rfl rfl rfl rfl rfl ?_
 refine L_nil ?_
 refine T_seq ?_
 refine Tsr hF rfl ?_
 refine lm rfl rfl rfl rfl rfl ?_
 refine lo rfl (pr_cmp (bo := .lss) (nc_lt (a := n) (b := 0)) rfl rfl rfl rfl) rfl rfl ?_
 refine L_nil ?_
 refine T_cond_f rfl ?_
 refine T_skip ?_
 refine T_seq ?_
 refine Tsr hF rfl ?_
 refine lm rfl rfl rfl rfl rfl ?_
 refine lm rfl rfl rfl rfl rfl ?_
 refine lo rfl (pr_cap_sl Try.underlying23 rfl rfl) rfl rfl ?_
 refine lm rfl rfl rfl rfl rfl ?_
 refine lo rfl (pr_len_sl Try.underlying23 rfl rfl) rfl rfl ?_
 refine lo rfl (pr_sub (ns_i64 (a := 0) (b := 0) sd sd) rfl rfl rfl) rfl rfl ?_
 refine lo rfl (pr_sub (ns_i64 (a := n) (b := 0 - 0) sd sd) rfl rfl rfl) rfl rfl ?_
 refine la rfl rfl rfl rfl rfl ?_
 refine L_nil ?_
 refine Tsr hF rfl ?_
 refine lm rfl rfl rfl rfl rfl ?_
 refine lo rfl (pr_cmp (bo := .gtr) (nc_lt (a := 0) (b := n - (0 - 0))) rfl rfl rfl rfl) rfl rfl ?_
 refine L_nil ?_
 refine T_cond (decide (0 < n - (0 - 0))) rfl (fun hc_1 => ?_) (fun hc_1 => ?_)
 ·
  have hc_1 := of_decide_eq_true hc_1
  refine T_reg hF rfl ?_
  refine lm rfl rfl rfl rfl rfl ?_
  refine lm rfl rfl rfl rfl rfl ?_
  refine lo rfl (pr_cap_sl Try.underlying23 rfl rfl) rfl rfl ?_
  refine T_nilrow 5 1 ?_
  refine L_op rfl (op_reslice (u := 0) 0 rfl sd Try.underlying23 kr rfl rfl rfl rfl rfl ?_)
  refine T_as 0 _ (.row (.slice none 0 0) 5 1 0 []) rfl (by first | rfl | (congr 1; simp [List.map_take])) ?_
  refine lm rfl rfl rfl rfl rfl ?_
  refine L_op rfl (op_append0 (z := (b8 (0#8))) (bytes := 1) (m := n - (0 - 0)) 0 rfl Try.underlying23 Try.underlying3 kr rfl rfl sd sd rfl rfl rfl rfl rfl (fun A2 C3 => ?_))
  refine T_as 0 _ (.row (.slice A2 (0 + (n - (0 - 0))) C3) 5 1 (0 + (n - (0 - 0))) ((List.replicate (n - (0 - 0)) 0#8).map b8)) rfl (by first | rfl | (congr 1; simp)) ?_
  refine lm rfl rfl rfl rfl rfl ?_
  refine lo rfl (pr_len_sl Try.underlying23 rfl rfl) rfl rfl ?_
  refine L_op rfl (op_reslice (u := 0) 0 rfl sd Try.underlying23 kr rfl rfl rfl rfl rfl ?_)
  refine T_as 0 _ (.row (.slice A2 0 C3) 5 1 0 []) rfl (by first | rfl | (congr 1; simp [List.map_take])) ?_
  refine la rfl rfl rfl rfl rfl ?_
  refine L_nil ?_
  refine Tsr hF rfl ?_
  refine lm rfl rfl rfl rfl rfl ?_
  refine la rfl rfl rfl rfl rfl ?_
  refine L_nil ?_
  refine T_ret ?_
  exact T_fin (A2, C3) (by first | trivial | omega | (simp; done)) (res1 rfl rfl) [0] ⟨by decide, rfl⟩ rfl
 ·
  have hc_1 := of_decide_eq_false hc_1
  refine T_skip ?_
  refine Tsr hF rfl ?_
  refine lm rfl rfl rfl rfl rfl ?_
  refine la rfl rfl rfl rfl rfl ?_
  refine L_nil ?_
  refine T_ret ?_
  refine T_nilrow 5 1 ?_
  exact T_fin (none, 0) (by first | trivial | omega | (simp; done)) (res1 rfl rfl) [0] ⟨by decide, rfl⟩ rfl
set_option maxHeartbeats 4000000 in
theorem concat_f (Q : List Pt) (A : Option Addr) (n : Nat) (c : Nat) (w : World) (hO : HOK [.rd A 1 n c (Q.map Pt.sl), .all Q] w) (hn : Q.length = n) (hs : (catp Q).length ≤ 100000000000000) (hn2 : n ≤ 100000000000000) : Calls Try.prog 91 [(.slice A n c)].toArray w (Ret (T := Option Addr × Nat) [] w (fun ⟨B, d⟩ => True) (fun ⟨B, d⟩ => (.slice B ((catp Q).length) d)) (fun ⟨B, d⟩ => [.row (.slice B ((catp Q).length) d) 5 1 ((catp Q).length) ((catp Q).map b8)])) := by
 have hF : Wid Fence.wide := wid_wide
 refine enter (c := _) Try.func91 rfl [] _ [.rd A 1 n c (Q.map Pt.sl), .all Q] (by rw [Try.ntmps91]; rfl) (own_rds hO rfl) ?_
 rw [Try.ntmps91]
 refine T_re [(0, (.slice A n c))] (sc rfl sn) ?_
 refine T_he [0, 1] [.rd A 1 n c (Q.map Pt.sl), .all Q] ⟨by decide, rfl⟩ ?_
 refine Tsr hF rfl ?_
 refine la rfl rfl rfl rfl rfl ?_
 refine L_nil ?_
 refine Tsr hF rfl ?_
 refine la rfl rfl rfl rfl rfl ?_
 refine L_nil ?_
 refine T_seq ?_
 refine Tsr hF rfl ?_
 refine lm rfl rfl rfl rfl rfl ?_
 refine lo rfl (pr_len_sl Try.underlying127 rfl rfl) rfl rfl ?_
 refine lm rfl rfl rfl rfl rfl ?_
 refine L_nil ?_
 refine T_block ?_
 refine T_slot 3 (.int .i64 ((0 : Nat) : Int)) (.int .i64 (((catp (Q.take 0)).length : Nat) : Int)) rfl (rfl) ?_
 refine T_loop (T := Nat) (fun k => k ≤ n) (fun k => [(0, (.slice A n c)), (3, (.int .i64 (((catp (Q.take k)).length : Nat) : Int))), (9, (.slice A n c)), (10, (.int .i64 ((n : Nat) : Int))), (11, (.int .i64 ((k : Nat) : Int)))]) (fun k => [.rd A 1 n c (Q.map Pt.sl), .all Q]) (fun k => n - k) 0 (by first | trivial | ((try dsimp only); first | omega | (refine ⟨?_, ?_⟩ <;> omega) | (refine ⟨?_, ?_, ?_⟩ <;> omega) | (simp; done) | (simp; omega))) (sc rfl (sc rfl (sc rfl (sc rfl (sc rfl sn))))) [0, 1] ⟨by decide, rfl⟩ ?_
 rintro k hp
 have hp : k ≤ n := hp
 have hle := catp_le Q k
 have hle1 := catp_le Q (k + 1)
 have hct : k < n → (catp (Q.take (k + 1))).length = (catp (Q.take k)).length + (pat Q k).xs.length := fun h => by rw [catp_take (by omega), List.length_append]
 refine T_re [(0, (.slice A n c)), (3, (.int .i64 (((catp (Q.take k)).length : Nat) : Int))), (9, (.slice A n c)), (10, (.int .i64 ((n : Nat) : Int))), (11, (.int .i64 ((k : Nat) : Int)))] (sc rfl (sc rfl (sc rfl (sc rfl (sc rfl sn))))) ?_
 refine T_he [0, 1] [.rd A 1 n c (Q.map Pt.sl), .all Q] ⟨by decide, rfl⟩ ?_
 refine Tsr hF rfl ?_
 refine lo rfl (pr_cmp (bo := .lss) (nc_lt (a := k) (b := n)) rfl rfl rfl rfl) rfl rfl ?_
 refine L_nil ?_
 refine T_seq ?_
 refine T_cond (decide (k < n)) rfl (fun hc_1 => ?_) (fun hc_1 => ?_)
 ·
  have hc_1 := of_decide_eq_true hc_1
  refine T_skip ?_
  refine T_seq ?_
  refine T_block ?_
  refine Tsr hF rfl ?_
  refine lo rfl (pr_ixs1 (j := k) (src_none (src_rd 0 rfl)) sd Try.underlying127 kr rfl rfl rfl) rfl rfl ?_
  refine lq rfl (ld_src (m := k) (src_rd 0 rfl) (pat_get sd) Try.underlying23 rfl rfl rfl) rfl rfl ?_
  refine T_ofall 1 rfl (pat_mem (L := Q) (j := k) sd) (fun hl_2 hm_3 => ?_)
  refine la rfl rfl rfl rfl rfl ?_
  refine L_nil ?_
  refine Tsr hF rfl ?_
  refine lm rfl rfl rfl rfl rfl ?_
  refine lm rfl rfl rfl rfl rfl ?_
  refine lo rfl (pr_len_sl Try.underlying23 rfl rfl) rfl rfl ?_
  refine lo rfl (pr_add (na_i64 (a := (catp (Q.take k)).length) (b := (pat Q k).n) sd) rfl rfl rfl) rfl rfl ?_
  refine la rfl rfl rfl rfl rfl ?_
  refine L_nil ?_
  refine Tsr hF rfl ?_
  refine lm rfl rfl rfl rfl rfl ?_
  refine lo rfl (pr_cmp (bo := .lss) (nc_lt (a := (catp (Q.take k)).length + ((pat Q k).n)) (b := 0)) rfl rfl rfl rfl) rfl rfl ?_
  refine L_nil ?_
  refine T_cond_f rfl ?_
  refine T_skip ?_
  refine T_reg hF rfl ?_
  refine lo rfl (pr_add (na_i64 (a := k) (b := 1) sd) rfl rfl rfl) rfl rfl ?_
  refine lm rfl rfl rfl rfl rfl ?_
  refine L_nil ?_
  refine T_slot 3 _ (.int .i64 (((catp (Q.take (k + 1))).length : Nat) : Int)) rfl (by rw [hct (by assumption)]; congr 2; omega) ?_
  exact T_again (k + 1) (by first | trivial | ((try dsimp only); first | omega | (refine ⟨?_, ?_⟩ <;> omega) | (refine ⟨?_, ?_, ?_⟩ <;> omega) | (simp; done) | (simp; omega))) (by first | trivial | ((try dsimp only); first | omega | (refine ⟨?_, ?_⟩ <;> omega) | (refine ⟨?_, ?_, ?_⟩ <;> omega) | (simp; done) | (simp; omega))) (sc rfl (sc rfl (sc rfl (sc rfl (sc rfl sn))))) [1, 2] ⟨by decide, rfl⟩
 ·
  have hc_1 := of_decide_eq_false hc_1
  refine T_exit rfl ?_
  obtain rfl : n = k := by omega
  refine Tsr hF rfl ?_
  refine lm rfl rfl rfl rfl rfl ?_
  refine L_op rfl (op_cn (fun w hw => grow_f ((catp (Q.take n)).length) w (hok_nil w) sd) (enters_of Try.func99 kr rfl) rfl rfl rfl rfl rfl (fun t4 q5 => ?_))
  obtain ⟨B6, d7⟩ := t4
  refine la rfl rfl rfl rfl rfl ?_
  refine L_nil ?_
  refine T_seq ?_
  refine Tsr hF rfl ?_
  refine lm rfl rfl rfl rfl rfl ?_
  refine lo rfl (pr_len_sl Try.underlying127 rfl rfl) rfl rfl ?_
  refine lm rfl rfl rfl rfl rfl ?_
  refine L_nil ?_
  refine T_block ?_
  refine T_slot 6 (.slice B6 0 d7) (.slice B6 ((catp (Q.take 0)).length) d7) rfl (rfl) ?_
  refine T_as 0 _ (.row (.slice B6 ((catp (Q.take 0)).length) d7) 5 1 ((catp (Q.take 0)).length) ((catp (Q.take 0)).map b8)) rfl (rfl) ?_
  refine T_loop (T := Nat × Option Addr × Nat) (fun ⟨k, A1, c1⟩ => k ≤ n) (fun ⟨k, A1, c1⟩ => [(6, (.slice A1 ((catp (Q.take k)).length) c1)), (25, (.slice A n c)), (26, (.int .i64 ((n : Nat) : Int))), (27, (.int .i64 ((k : Nat) : Int)))]) (fun ⟨k, A1, c1⟩ => [.row (.slice A1 ((catp (Q.take k)).length) c1) 5 1 ((catp (Q.take k)).length) ((catp (Q.take k)).map b8), .rd A 1 n c (Q.map Pt.sl), .all Q]) (fun ⟨k, A1, c1⟩ => n - k) (0, B6, d7) (by first | trivial | ((try dsimp only); first | omega | (refine ⟨?_, ?_⟩ <;> omega) | (refine ⟨?_, ?_, ?_⟩ <;> omega) | (simp; done) | (simp; omega))) (sc rfl (sc rfl (sc rfl (sc rfl sn)))) [0, 1, 2] ⟨by decide, rfl⟩ ?_
  rintro ⟨k, A1, c1⟩ hp
  have hp : k ≤ n := hp
  have hle := catp_le Q k
  have hle1 := catp_le Q (k + 1)
  have hct : k < n → (catp (Q.take (k + 1))).length = (catp (Q.take k)).length + (pat Q k).xs.length := fun h => by rw [catp_take (by omega), List.length_append]
  refine T_re [(6, (.slice A1 ((catp (Q.take k)).length) c1)), (25, (.slice A n c)), (26, (.int .i64 ((n : Nat) : Int))), (27, (.int .i64 ((k : Nat) : Int)))] (sc rfl (sc rfl (sc rfl (sc rfl sn)))) ?_
  refine T_he [0, 1, 2] [.row (.slice A1 ((catp (Q.take k)).length) c1) 5 1 ((catp (Q.take k)).length) ((catp (Q.take k)).map b8), .rd A 1 n c (Q.map Pt.sl), .all Q] ⟨by decide, rfl⟩ ?_
  refine Tsr hF rfl ?_
  refine lo rfl (pr_cmp (bo := .lss) (nc_lt (a := k) (b := n)) rfl rfl rfl rfl) rfl rfl ?_
  refine L_nil ?_
  refine T_seq ?_
  refine T_cond (decide (k < n)) rfl (fun hc_8 => ?_) (fun hc_8 => ?_)
  ·
   have hc_8 := of_decide_eq_true hc_8
   refine T_skip ?_
   refine T_seq ?_
   refine T_block ?_
   refine Tsr hF rfl ?_
   refine lo rfl (pr_ixs1 (j := k) (src_none (src_rd 1 rfl)) sd Try.underlying127 kr rfl rfl rfl) rfl rfl ?_
   refine lq rfl (ld_src (m := k) (src_rd 1 rfl) (pat_get sd) Try.underlying23 rfl rfl rfl) rfl rfl ?_
   refine T_ofall 2 rfl (pat_mem (L := Q) (j := k) sd) (fun hl_9 hm_10 => ?_)
   refine la rfl rfl rfl rfl rfl ?_
   refine L_nil ?_
   refine T_reg hF rfl ?_
   refine lm rfl rfl rfl rfl rfl ?_
   refine lm rfl rfl rfl rfl rfl ?_
   refine L_op rfl (op_append (z := (b8 (0#8))) (size := 1) (bytes := 1) 1 rfl Try.underlying23 kr kr (by decide) (src_rd 0 rfl) (all8_one _) sd sd rfl rfl rfl rfl rfl (fun A11 C12 => ?_))
   refine T_as 0 _ (.row (.slice A11 ((catp (Q.take k)).length + ((pat Q k).n)) C12) 5 1 ((catp (Q.take k)).length + ((pat Q k).n)) (((catp (Q.take k)) ++ (pat Q k).xs).map b8)) rfl (by first | rfl | (congr 1; simp; done) | (simp only [List.map_append]; rfl) | (rw [List.map_append]; rfl)) ?_
   refine la rfl rfl rfl rfl rfl ?_
   refine L_nil ?_
   refine T_reg hF rfl ?_
   refine lo rfl (pr_add (na_i64 (a := k) (b := 1) sd) rfl rfl rfl) rfl rfl ?_
   refine lm rfl rfl rfl rfl rfl ?_
   refine L_nil ?_
   refine T_slot 6 (.slice A11 ((catp (Q.take k)).length + ((pat Q k).n)) C12) (.slice A11 ((catp (Q.take (k + 1))).length) C12) rfl (by rw [hct (by assumption)]; congr 1; omega) ?_
   refine T_as 0 _ (.row (.slice A11 ((catp (Q.take (k + 1))).length) C12) 5 1 ((catp (Q.take (k + 1))).length) ((catp (Q.take (k + 1))).map b8)) rfl (by rw [catp_take (by omega), List.length_append]; congr 1 <;> simp <;> omega) ?_
   exact T_again (k + 1, A11, C12) (by first | trivial | ((try dsimp only); first | omega | (refine ⟨?_, ?_⟩ <;> omega) | (refine ⟨?_, ?_, ?_⟩ <;> omega) | (simp; done) | (simp; omega))) (by first | trivial | ((try dsimp only); first | omega | (refine ⟨?_, ?_⟩ <;> omega) | (refine ⟨?_, ?_, ?_⟩ <;> omega) | (simp; done) | (simp; omega))) (sc rfl (sc rfl (sc rfl (sc rfl sn)))) [0, 2, 3] ⟨by decide, rfl⟩
  ·
   have hc_8 := of_decide_eq_false hc_8
   refine T_exit rfl ?_
   obtain rfl : n = k := by omega
   refine Tsr hF rfl ?_
   refine lm rfl rfl rfl rfl rfl ?_
   refine la rfl rfl rfl rfl rfl ?_
   refine L_nil ?_
   refine T_ret ?_
   refine T_slot 2 (.slice A1 ((catp (Q.take n)).length) c1) (.slice A1 ((catp Q).length) c1) rfl (by rw [List.take_of_length_le (by omega)]) ?_
   refine T_as 0 _ (.row (.slice A1 ((catp Q).length) c1) 5 1 ((catp Q).length) ((catp Q).map b8)) rfl (by rw [List.take_of_length_le (by omega)]) ?_
   exact T_fin (A1, c1) (by first | trivial | omega | (simp; done)) (res1 rfl rfl) [0] ⟨by decide, rfl⟩ rfl
end Go.Proofs.Ytlplpmkdebemnaa
namespace Go.Proofs.Ytlplpmkdebemnaa
set_option linter.unusedVariables false
set_option linter.unusedSimpArgs false
set_option linter.unnecessarySimpa false
set_option maxRecDepth 100000
open Go.RowKit Bv Fw

theorem own_step (xs : List (BitVec 8)) (f : BitVec 8) (n k : Nat) (hx : xs.length = n) (hk : k < 3) : (xs ++ (List.replicate k f ++ List.replicate (3 - k) 0#8)).set (n + k) f = xs ++ (List.replicate (k + 1) f ++ List.replicate (3 - (k + 1)) 0#8) := by
  subst hx
  rcases (by omega : k = 0 ∨ k = 1 ∨ k = 2) with rfl | rfl | rfl <;> simp [List.set_append_right, List.replicate]
theorem own_at (xs : List (BitVec 8)) (f : BitVec 8) (n k : Nat) (hx : xs.length = n) (hk : k < 3) : ath (List.take (n + 3) (xs ++ [f, f, f])) (n + k) = f := by
  subst hx
  unfold ath
  rcases (by omega : k = 0 ∨ k = 1 ∨ k = 2) with rfl | rfl | rfl <;> simp [List.getD_eq_getElem?_getD, List.getElem?_take, List.getElem?_append_right]

set_option maxHeartbeats 4000000 in
theorem bytes_f (xs : List (BitVec 8)) (ys : List (BitVec 8)) (A : Option Addr) (n : Nat) (c : Nat) (B : Option Addr) (m : Nat) (d : Nat) (w : World) (hO : HOK [.rd A 1 n c (xs.map b8), .rd B 1 m d (ys.map b8)] w)  : Calls Try.prog 15 [(.slice A n c), (.slice B m d)].toArray w (Ret (T := Unit) [] w (fun _ => True) (fun _ => (.bool (decide (xs = ys)))) (fun _ => [])) := by
 have hF : Wid Fence.wide := wid_wide
 refine enter (c := _) Try.func15 rfl [] _ [.rd A 1 n c (xs.map b8), .rd B 1 m d (ys.map b8)] (by rw [Try.ntmps15]; rfl) (own_rds hO rfl) ?_
 rw [Try.ntmps15]
 refine T_re [(0, (.slice A n c)), (1, (.slice B m d))] (sc rfl (sc rfl sn)) ?_
 refine T_he [0, 1] [.rd A 1 n c (xs.map b8), .rd B 1 m d (ys.map b8)] ⟨by decide, rfl⟩ ?_
 refine Tsr hF rfl ?_
 refine la rfl rfl rfl rfl rfl ?_
 refine L_nil ?_
 refine Tsr hF rfl ?_
 refine lm rfl rfl rfl rfl rfl ?_
 refine lq rfl (ld_str (xs := xs) (src_rd 0 rfl) Try.underlying23 Try.underlying5 Try.underlying9 rfl rfl) rfl rfl ?_
 refine lm rfl rfl rfl rfl rfl ?_
 refine lq rfl (ld_str (xs := ys) (src_rd 1 rfl) Try.underlying23 Try.underlying5 Try.underlying9 rfl rfl) rfl rfl ?_
 refine lo rfl (pr_streq rfl rfl rfl) rfl rfl ?_
 refine la rfl rfl rfl rfl rfl ?_
 refine L_nil ?_
 refine T_ret ?_
 exact T_fin () (by first | trivial | omega | (simp; done)) (res1 rfl rfl) [] ⟨by decide, rfl⟩ rfl
set_option maxHeartbeats 4000000 in
theorem plain1_f (x : BitVec 8) (y : BitVec 8) (w : World) (hO : HOK [] w)  : Calls Try.prog 64 [(b8 x), (b8 y)].toArray w (Ret (T := Unit) [] w (fun _ => True) (fun _ => (.bool (x == y))) (fun _ => [])) := by
 have hF : Wid Fence.wide := wid_wide
 refine enter (c := _) Try.func64 rfl [] _ [] (by rw [Try.ntmps64]; rfl) (own_rds hO rfl) ?_
 rw [Try.ntmps64]
 refine T_re [(0, (b8 x)), (1, (b8 y))] (sc rfl (sc rfl sn)) ?_
 refine T_he [] [] ⟨by decide, rfl⟩ ?_
 refine Tsr hF rfl ?_
 refine la rfl rfl rfl rfl rfl ?_
 refine L_nil ?_
 refine Tsr hF rfl ?_
 refine lm rfl rfl rfl rfl rfl ?_
 refine lm rfl rfl rfl rfl rfl ?_
 refine lo rfl (pr_cmp (bo := .eql) (n8_beq x y) rfl rfl rfl rfl) rfl rfl ?_
 refine la rfl rfl rfl rfl rfl ?_
 refine L_nil ?_
 refine T_ret ?_
 exact T_fin () (by first | trivial | omega | (simp; done)) (res1 rfl rfl) [] ⟨by decide, rfl⟩ rfl
set_option maxHeartbeats 4000000 in
theorem same_f (xs : List (BitVec 8)) (A : Option Addr) (n : Nat) (c : Nat) (B : Option Addr) (d : Nat) (w : World) (hO : HOK [.rd A 1 n c (xs.map b8), .rd B 1 n d (xs.map b8)] w) (hx : xs.length = n) (hn : n ≤ 10000000000000) : Calls Try.prog 63 [(.slice A n c), (.slice B n d), (.func (.func 64) #[] [].toArray)].toArray w (Ret (T := Unit) [] w (fun _ => True) (fun _ => (.bool true)) (fun _ => [])) := by
 have hF : Wid Fence.wide := wid_wide
 refine enter (c := _) Try.func63 rfl [] _ [.rd A 1 n c (xs.map b8), .rd B 1 n d (xs.map b8)] (by rw [Try.ntmps63]; rfl) (own_rds hO rfl) ?_
 rw [Try.ntmps63]
 refine T_re [(0, (.slice A n c)), (1, (.slice B n d)), (2, (.func (.func 64) #[] [].toArray))] (sc rfl (sc rfl (sc rfl sn))) ?_
 refine T_he [0, 1] [.rd A 1 n c (xs.map b8), .rd B 1 n d (xs.map b8)] ⟨by decide, rfl⟩ ?_
 refine Tsr hF rfl ?_
 refine la rfl rfl rfl rfl rfl ?_
 refine L_nil ?_
 refine T_seq ?_
 refine Tsr hF rfl ?_
 refine lm rfl rfl rfl rfl rfl ?_
 refine lo rfl (pr_len_sl Try.underlying23 rfl rfl) rfl rfl ?_
 refine lm rfl rfl rfl rfl rfl ?_
 refine lo rfl (pr_len_sl Try.underlying23 rfl rfl) rfl rfl ?_
 refine lo rfl (pr_cmp (bo := .neq) (nc_ne (a := n) (b := n)) rfl rfl rfl rfl) rfl rfl ?_
 refine L_nil ?_
 refine T_cond_no (t := (n != n)) rfl (by simp) ?_
 refine T_skip ?_
 refine T_seq ?_
 refine Tsr hF rfl ?_
 refine la rfl rfl rfl rfl rfl ?_
 refine L_nil ?_
 refine T_block ?_
 refine T_loop (T := Nat) (fun k => k ≤ n) (fun k => [(0, (.slice A n c)), (1, (.slice B n d)), (2, (.func (.func 64) #[] [].toArray)), (7, (.int .i64 ((k : Nat) : Int)))]) (fun k => [.rd A 1 n c (xs.map b8), .rd B 1 n d (xs.map b8)]) (fun k => n - k) 0 (by first | trivial | ((try dsimp only); first | omega | (refine ⟨?_, ?_⟩ <;> omega) | (refine ⟨?_, ?_, ?_⟩ <;> omega) | (simp; done) | (simp; omega))) (sc rfl (sc rfl (sc rfl (sc rfl sn)))) [0, 1] ⟨by decide, rfl⟩ ?_
 rintro k hp
 have hp : k ≤ n := hp
 refine T_re [(0, (.slice A n c)), (1, (.slice B n d)), (2, (.func (.func 64) #[] [].toArray)), (7, (.int .i64 ((k : Nat) : Int)))] (sc rfl (sc rfl (sc rfl (sc rfl sn)))) ?_
 refine T_he [0, 1] [.rd A 1 n c (xs.map b8), .rd B 1 n d (xs.map b8)] ⟨by decide, rfl⟩ ?_
 refine T_seq ?_
 refine Tsr hF rfl ?_
 refine lm rfl rfl rfl rfl rfl ?_
 refine lm rfl rfl rfl rfl rfl ?_
 refine lo rfl (pr_len_sl Try.underlying23 rfl rfl) rfl rfl ?_
 refine lo rfl (pr_cmp (bo := .lss) (nc_lt (a := k) (b := n)) rfl rfl rfl rfl) rfl rfl ?_
 refine L_nil ?_
 refine T_cond (decide (k < n)) rfl (fun hc_1 => ?_) (fun hc_1 => ?_)
 ·
  have hc_1 := of_decide_eq_true hc_1
  refine T_skip ?_
  refine T_seq ?_
  refine T_block ?_
  refine T_seq ?_
  refine T_regD [.rd A 1 n c (xs.map b8), .rd B 1 n d (xs.map b8)] 11 11 #[false, false, false, false, false, false, false, false, false, false, false] hF kr kr ?_
  refine D_pure (i := 0) [0, 1] rfl kr rfl (pr_move rfl rfl) (.inr rfl) rfl rfl ?_
  refine D_pure (i := 1) [0, 1] rfl kr rfl (pr_move rfl rfl) (.inr rfl) rfl rfl ?_
  refine D_pure (i := 2) [0, 1] rfl kr rfl (pr_move rfl rfl) (.inr rfl) rfl rfl ?_
  refine D_pure (i := 3) [0, 1] rfl kr rfl (pr_ixs1 (j := k) (src_none (src_rd 0 rfl)) sd Try.underlying23 kr rfl rfl rfl) (.inr rfl) rfl rfl ?_
  refine D_pure (i := 5) [0, 1] rfl kr rfl (pr_move rfl rfl) (.inr rfl) rfl rfl ?_
  refine D_pure (i := 6) [0, 1] rfl kr rfl (pr_move rfl rfl) (.inr rfl) rfl rfl ?_
  refine D_pure (i := 7) [0, 1] rfl kr rfl (pr_ixs1 (j := k) (src_none (src_rd 1 rfl)) sd Try.underlying23 kr rfl rfl rfl) (.inr rfl) rfl rfl ?_
  refine D_take (i := 4) [0, 1] rfl kr rfl (ld_src (m := k) (src_rd 0 rfl) (get8 sd) Try.underlying5 rfl rfl rfl) rfl rfl rfl ?_
  refine D_take (i := 8) [0, 1] rfl kr rfl (ld_src (m := k) (src_rd 1 rfl) (get8 sd) Try.underlying5 rfl rfl rfl) rfl rfl rfl ?_
  refine D_one 9 _ rfl kr rfl (op_cn (fun w hw => plain1_f (ath xs k) (ath xs k) w (hok_nil w) ) (enters_of Try.func64 kr rfl) rfl rfl rfl rfl rfl (fun t2 q3 => ?_))
  refine D_on [0, 1] rfl ?_
  refine D_pure (i := 10) [0, 1] rfl kr rfl (pr_un rfl rfl rfl) (.inr rfl) rfl rfl ?_
  refine D_done kr ?_
  refine T_cond_no (t := !((ath xs k) == (ath xs k))) rfl (by simp) ?_
  refine T_skip ?_
  refine T_reg hF rfl ?_
  refine lm rfl rfl rfl rfl rfl ?_
  refine lo rfl (pr_add (na_i64 (a := k) (b := 1) sd) rfl rfl rfl) rfl rfl ?_
  refine la rfl rfl rfl rfl rfl ?_
  refine L_nil ?_
  exact T_again (k + 1) (by first | trivial | ((try dsimp only); first | omega | (refine ⟨?_, ?_⟩ <;> omega) | (refine ⟨?_, ?_, ?_⟩ <;> omega) | (simp; done) | (simp; omega))) (by first | trivial | ((try dsimp only); first | omega | (refine ⟨?_, ?_⟩ <;> omega) | (refine ⟨?_, ?_, ?_⟩ <;> omega) | (simp; done) | (simp; omega))) (sc rfl (sc rfl (sc rfl (sc rfl sn)))) [0, 1] ⟨by decide, rfl⟩
 ·
  have hc_1 := of_decide_eq_false hc_1
  refine T_exit rfl ?_
  refine Tsr hF rfl ?_
  refine la rfl rfl rfl rfl rfl ?_
  refine L_nil ?_
  refine T_ret ?_
  exact T_fin () (by first | trivial | omega | (simp; done)) (res1 rfl rfl) [] ⟨by decide, rfl⟩ rfl
set_option maxHeartbeats 4000000 in
theorem plain_f (xs : List (BitVec 8)) (A : Option Addr) (n : Nat) (c : Nat) (B : Option Addr) (d : Nat) (w : World) (hO : HOK [.rd A 1 n c (xs.map b8), .rd B 1 n d (xs.map b8)] w) (hx : xs.length = n) (hn : n ≤ 10000000000000) : Calls Try.prog 40 [(.slice A n c), (.slice B n d)].toArray w (Ret (T := Unit) [] w (fun _ => True) (fun _ => (.bool true)) (fun _ => [])) := by
 have hF : Wid Fence.wide := wid_wide
 refine enter (c := _) Try.func40 rfl [] _ [.rd A 1 n c (xs.map b8), .rd B 1 n d (xs.map b8)] (by rw [Try.ntmps40]; rfl) (own_rds hO rfl) ?_
 rw [Try.ntmps40]
 refine T_re [(0, (.slice A n c)), (1, (.slice B n d))] (sc rfl (sc rfl sn)) ?_
 refine T_he [0, 1] [.rd A 1 n c (xs.map b8), .rd B 1 n d (xs.map b8)] ⟨by decide, rfl⟩ ?_
 refine Tsr hF rfl ?_
 refine la rfl rfl rfl rfl rfl ?_
 refine L_nil ?_
 refine Tsr hF rfl ?_
 refine lm rfl rfl rfl rfl rfl ?_
 refine lm rfl rfl rfl rfl rfl ?_
 refine L_op rfl (op_cn (fun w hw => same_f xs A n c B d w (hok_cons ((src_rd 0 rfl) w hw) (hok_cons ((src_rd 1 rfl) w hw) (hok_nil w))) sd sd) (enters_of Try.func63 kr rfl) rfl rfl rfl rfl rfl (fun t1 q2 => ?_))
 refine la rfl rfl rfl rfl rfl ?_
 refine L_nil ?_
 refine T_ret ?_
 exact T_fin () (by first | trivial | omega | (simp; done)) (res1 rfl rfl) [] ⟨by decide, rfl⟩ rfl
set_option maxHeartbeats 4000000 in
theorem own_f (xs : List (BitVec 8)) (f : BitVec 8) (A : Option Addr) (n : Nat) (c : Nat) (w : World) (hO : HOK [.rd A 1 n c (xs.map b8)] w) (hx : xs.length = n) (hn : n ≤ 10000000000000) : Calls Try.prog 12 [(.slice A n c), (b8 f)].toArray w (Ret (T := Option Addr × Nat) [] w (fun ⟨B, d⟩ => n + 3 ≤ d) (fun ⟨B, d⟩ => (.slice B n d)) (fun ⟨B, d⟩ => [.old B 1 (n + 3) d ((xs ++ [f, f, f]).map b8), .old B 1 n d (xs.map b8)])) := by
 have hF : Wid Fence.wide := wid_wide
 refine enter (c := _) Try.func12 rfl [] _ [.rd A 1 n c (xs.map b8)] (by rw [Try.ntmps12]; rfl) (own_rds hO rfl) ?_
 rw [Try.ntmps12]
 refine T_re [(0, (.slice A n c)), (1, (b8 f))] (sc rfl (sc rfl sn)) ?_
 refine T_he [0] [.rd A 1 n c (xs.map b8)] ⟨by decide, rfl⟩ ?_
 refine Tsr hF rfl ?_
 refine la rfl rfl rfl rfl rfl ?_
 refine L_nil ?_
 refine Tsr hF rfl ?_
 refine lm rfl rfl rfl rfl rfl ?_
 refine lo rfl (pr_len_sl Try.underlying23 rfl rfl) rfl rfl ?_
 refine lo rfl (pr_add (na_i64 (a := n) (b := 3) sd) rfl rfl rfl) rfl rfl ?_
 refine L_op rfl (op_make (z := (b8 (0#8))) (n := 0) (c := n + 3) Try.underlying23 (bytes := 1) kr rfl sd sd sd rfl rfl rfl rfl rfl (fun g1 => ?_))
 refine T_as 0 _ (.blk g1 5 ((List.replicate (n + 3) 0#8).map b8)) rfl (by rw [List.map_replicate]) ?_
 refine la rfl rfl rfl rfl rfl ?_
 refine L_nil ?_
 refine Tsr hF rfl ?_
 refine lm rfl rfl rfl rfl rfl ?_
 refine lm rfl rfl rfl rfl rfl ?_
 refine L_op rfl (op_app_room (cs' := ((xs ++ (List.replicate 0 f ++ List.replicate (3 - 0) 0#8)).map b8)) 0 rfl Try.underlying23 kr (src_rd 1 rfl) (all8_one _) sd sd (by simp) rfl rfl rfl rfl rfl ?_)
 refine la rfl rfl rfl rfl rfl ?_
 refine L_nil ?_
 refine Tsr hF rfl ?_
 refine lm rfl rfl rfl rfl rfl ?_
 refine lm rfl rfl rfl rfl rfl ?_
 refine lo rfl (pr_len_sl Try.underlying23 rfl rfl) rfl rfl ?_
 refine lo rfl (pr_add (na_i64 (a := n) (b := 3) sd) rfl rfl rfl) rfl rfl ?_
 refine lo rfl (pr_slup (u := n + 3) sd Try.underlying23 (z := 1) kr rfl rfl rfl) rfl rfl ?_
 refine la rfl rfl rfl rfl rfl ?_
 refine L_nil ?_
 refine T_seq ?_
 refine Tsr hF rfl ?_
 refine lm rfl rfl rfl rfl rfl ?_
 refine lo rfl (pr_len_sl Try.underlying23 rfl rfl) rfl rfl ?_
 refine la rfl rfl rfl rfl rfl ?_
 refine L_nil ?_
 refine T_block ?_
 refine T_slot 7 (.int .i64 ((n : Nat) : Int)) (.int .i64 ((n + 0 : Nat) : Int)) rfl (by congr 1) ?_
 refine T_loop (T := Nat) (fun k => k ≤ 3) (fun k => [(1, (b8 f)), (5, (.slice (some ⟨g1, 0, none⟩) (0 + n) (n + 3))), (6, (.slice (some ⟨g1, 0, none⟩) (n + 3) (n + 3))), (7, (.int .i64 ((n + k : Nat) : Int)))]) (fun k => [.blk g1 5 ((xs ++ (List.replicate k f ++ List.replicate (3 - k) 0#8)).map b8), .rd A 1 n c (xs.map b8)]) (fun k => 3 - k) 0 (by first | trivial | ((try dsimp only); first | omega | (refine ⟨?_, ?_⟩ <;> omega) | (refine ⟨?_, ?_, ?_⟩ <;> omega) | (simp; done) | (simp; omega))) (sc rfl (sc rfl (sc rfl (sc rfl sn)))) [0, 1] ⟨by decide, rfl⟩ ?_
 rintro k hp
 have hp : k ≤ 3 := hp
 refine T_re [(1, (b8 f)), (5, (.slice (some ⟨g1, 0, none⟩) (0 + n) (n + 3))), (6, (.slice (some ⟨g1, 0, none⟩) (n + 3) (n + 3))), (7, (.int .i64 ((n + k : Nat) : Int)))] (sc rfl (sc rfl (sc rfl (sc rfl sn)))) ?_
 refine T_he [0, 1] [.blk g1 5 ((xs ++ (List.replicate k f ++ List.replicate (3 - k) 0#8)).map b8), .rd A 1 n c (xs.map b8)] ⟨by decide, rfl⟩ ?_
 refine T_seq ?_
 refine Tsr hF rfl ?_
 refine lm rfl rfl rfl rfl rfl ?_
 refine lm rfl rfl rfl rfl rfl ?_
 refine lo rfl (pr_len_sl Try.underlying23 rfl rfl) rfl rfl ?_
 refine lo rfl (pr_cmp (bo := .lss) (nc_lt (a := n + k) (b := n + 3)) rfl rfl rfl rfl) rfl rfl ?_
 refine L_nil ?_
 refine T_cond (decide (n + k < n + 3)) rfl (fun hc_2 => ?_) (fun hc_2 => ?_)
 ·
  have hc_2 := of_decide_eq_true hc_2
  refine T_skip ?_
  refine T_seq ?_
  refine T_block ?_
  refine T_reg hF rfl ?_
  refine lm rfl rfl rfl rfl rfl ?_
  refine lm rfl rfl rfl rfl rfl ?_
  refine lm rfl rfl rfl rfl rfl ?_
  refine lo rfl (pr_ixb (j := n + k) (m' := n + k) sd (by omega) Try.underlying23 (z := 1) kr rfl rfl rfl) rfl rfl ?_
  refine L_op rfl (op_store (vs := [(b8 f)]) (cs' := ((List.set (xs ++ (List.replicate k f ++ List.replicate (3 - k) 0#8)) (n + k) f).map b8)) 0 rfl rfl kr (one_one rfl) (stl sd) (splice_map (f := b8) sd) rfl rfl rfl rfl ?_)
  refine L_nil ?_
  refine T_reg hF rfl ?_
  refine lm rfl rfl rfl rfl rfl ?_
  refine lo rfl (pr_add (na_i64 (a := n + k) (b := 1) sd) rfl rfl rfl) rfl rfl ?_
  refine la rfl rfl rfl rfl rfl ?_
  refine L_nil ?_
  refine T_slot 7 (.int .i64 ((n + k + 1 : Nat) : Int)) (.int .i64 ((n + (k + 1) : Nat) : Int)) rfl (by congr 1) ?_
  refine T_as 0 _ (.blk g1 5 ((xs ++ (List.replicate (k + 1) f ++ List.replicate (3 - (k + 1)) 0#8)).map b8)) rfl (by rw [own_step _ _ _ _ hx (by omega)]) ?_
  exact T_again (k + 1) (by first | trivial | ((try dsimp only); first | omega | (refine ⟨?_, ?_⟩ <;> omega) | (refine ⟨?_, ?_, ?_⟩ <;> omega) | (simp; done) | (simp; omega))) (by first | trivial | ((try dsimp only); first | omega | (refine ⟨?_, ?_⟩ <;> omega) | (refine ⟨?_, ?_, ?_⟩ <;> omega) | (simp; done) | (simp; omega))) (sc rfl (sc rfl (sc rfl (sc rfl sn)))) [0, 1] ⟨by decide, rfl⟩
 ·
  have hc_2 := of_decide_eq_false hc_2
  refine T_exit rfl ?_
  refine Tsr hF rfl ?_
  refine lm rfl rfl rfl rfl rfl ?_
  refine la rfl rfl rfl rfl rfl ?_
  refine L_nil ?_
  refine T_ret ?_
  obtain rfl : 3 = k := by omega
  refine T_slot 4 (.slice (some ⟨g1, 0, none⟩) (0 + n) (n + 3)) (.slice (some ⟨g1, 0, none⟩) n (n + 3)) rfl (by first | rfl | (simp; done)) ?_
  refine T_oldb 0 (zs := ((xs ++ [f, f, f]).map b8)) 0 1 (n + 3) (n + 3) rfl sd (by rw [List.drop_zero, List.take_of_length_le (by simp; omega)]; rfl) sd sd ?_
  refine T_pre 0 n ((xs.map b8)) rfl sd (by rw [← List.map_take, Nat.mul_one, ← hx, List.take_left]) ?_
  exact T_fin (some ⟨g1, 0, none⟩, n + 3) (by first | trivial | omega | (simp; done)) (res1 rfl rfl) [1, 0] ⟨by decide, rfl⟩ rfl
set_option maxHeartbeats 4000000 in
theorem kept_f (xs : List (BitVec 8)) (f : BitVec 8) (A : Option Addr) (n : Nat) (c : Nat) (B : Option Addr) (d : Nat) (w : World) (hO : HOK [.rd A 1 n c (xs.map b8), .rd A 1 (n + 3) c ((xs ++ [f, f, f]).map b8), .rd B 1 n d (xs.map b8)] w) (hx : xs.length = n) (hn : n ≤ 10000000000000) (hc : n + 3 ≤ c) : Calls Try.prog 18 [(.slice A n c), (.slice B n d), (b8 f)].toArray w (Ret (T := Unit) [] w (fun _ => True) (fun _ => (.bool true)) (fun _ => [])) := by
 have hF : Wid Fence.wide := wid_wide
 refine enter (c := _) Try.func18 rfl [] _ [.rd A 1 n c (xs.map b8), .rd A 1 (n + 3) c ((xs ++ [f, f, f]).map b8), .rd B 1 n d (xs.map b8)] (by rw [Try.ntmps18]; rfl) (own_rds hO rfl) ?_
 rw [Try.ntmps18]
 refine T_re [(0, (.slice A n c)), (1, (.slice B n d)), (2, (b8 f))] (sc rfl (sc rfl (sc rfl sn))) ?_
 refine T_he [0, 1, 2] [.rd A 1 n c (xs.map b8), .rd A 1 (n + 3) c ((xs ++ [f, f, f]).map b8), .rd B 1 n d (xs.map b8)] ⟨by decide, rfl⟩ ?_
 refine Tsr hF rfl ?_
 refine la rfl rfl rfl rfl rfl ?_
 refine L_nil ?_
 refine T_seq ?_
 refine Tsr hF rfl ?_
 refine lm rfl rfl rfl rfl rfl ?_
 refine lm rfl rfl rfl rfl rfl ?_
 refine L_op rfl (op_cn (fun w hw => plain_f xs A n c B d w (hok_cons ((src_rd 0 rfl) w hw) (hok_cons ((src_rd 2 rfl) w hw) (hok_nil w))) sd sd) (enters_of Try.func40 kr rfl) rfl rfl rfl rfl rfl (fun t1 q2 => ?_))
 refine lo rfl (pr_un (v := .bool false) rfl rfl rfl) rfl rfl ?_
 refine lm rfl rfl rfl rfl rfl ?_
 refine lm rfl rfl rfl rfl rfl ?_
 refine lo rfl (pr_cap_sl Try.underlying23 rfl rfl) rfl rfl ?_
 refine lm rfl rfl rfl rfl rfl ?_
 refine lo rfl (pr_len_sl Try.underlying23 rfl rfl) rfl rfl ?_
 refine lo rfl (pr_add (na_i64 (a := n) (b := 3) sd) rfl rfl rfl) rfl rfl ?_
 refine lo rfl (pr_cmp (bo := .lss) (nc_lt (a := c) (b := n + 3)) rfl rfl rfl rfl) rfl rfl ?_
 refine lo rfl (pr_pick_f rfl rfl rfl) rfl rfl ?_
 refine L_nil ?_
 refine T_cond_no (t := decide (c < n + 3)) rfl (by simp; omega) ?_
 refine T_skip ?_
 refine Tsr hF rfl ?_
 refine lm rfl rfl rfl rfl rfl ?_
 refine lm rfl rfl rfl rfl rfl ?_
 refine lo rfl (pr_len_sl Try.underlying23 rfl rfl) rfl rfl ?_
 refine lo rfl (pr_add (na_i64 (a := n) (b := 3) sd) rfl rfl rfl) rfl rfl ?_
 refine L_op rfl (op_slice_rd (l := 0) (u := n + 3) 1 rfl sd sd Try.underlying23 kr rfl rfl rfl ⟨_, rfl⟩ rfl rfl (fun B3 => ?_))
 refine T_as 0 _ (.rd B3 1 (n + 3) c ((List.take (n + 3) (xs ++ [f, f, f])).map b8)) rfl (by congr 1; simp [List.map_take, List.map_drop] <;> omega) ?_
 refine T_slot 25 _ (.slice B3 (n + 3) c) rfl (by congr 1) ?_
 refine la rfl rfl rfl rfl rfl ?_
 refine L_nil ?_
 refine T_seq ?_
 refine Tsr hF rfl ?_
 refine lm rfl rfl rfl rfl rfl ?_
 refine lo rfl (pr_len_sl Try.underlying23 rfl rfl) rfl rfl ?_
 refine la rfl rfl rfl rfl rfl ?_
 refine L_nil ?_
 refine T_block ?_
 refine T_slot 8 (.int .i64 ((n : Nat) : Int)) (.int .i64 ((n + 0 : Nat) : Int)) rfl (by congr 1) ?_
 refine T_loop (T := Nat) (fun k => k ≤ 3) (fun k => [(2, (b8 f)), (7, (.slice B3 (n + 3) c)), (8, (.int .i64 ((n + k : Nat) : Int)))]) (fun k => [.rd B3 1 (n + 3) c ((List.take (n + 3) (xs ++ [f, f, f])).map b8), .rd A 1 n c (xs.map b8), .rd A 1 (n + 3) c ((xs ++ [f, f, f]).map b8), .rd B 1 n d (xs.map b8)]) (fun k => 3 - k) 0 (by first | trivial | ((try dsimp only); first | omega | (refine ⟨?_, ?_⟩ <;> omega) | (refine ⟨?_, ?_, ?_⟩ <;> omega) | (simp; done) | (simp; omega))) (sc rfl (sc rfl (sc rfl sn))) [0, 1, 2, 3] ⟨by decide, rfl⟩ ?_
 rintro k hp
 have hp : k ≤ 3 := hp
 refine T_re [(2, (b8 f)), (7, (.slice B3 (n + 3) c)), (8, (.int .i64 ((n + k : Nat) : Int)))] (sc rfl (sc rfl (sc rfl sn))) ?_
 refine T_he [0, 1, 2, 3] [.rd B3 1 (n + 3) c ((List.take (n + 3) (xs ++ [f, f, f])).map b8), .rd A 1 n c (xs.map b8), .rd A 1 (n + 3) c ((xs ++ [f, f, f]).map b8), .rd B 1 n d (xs.map b8)] ⟨by decide, rfl⟩ ?_
 refine T_seq ?_
 refine Tsr hF rfl ?_
 refine lm rfl rfl rfl rfl rfl ?_
 refine lm rfl rfl rfl rfl rfl ?_
 refine lo rfl (pr_len_sl Try.underlying23 rfl rfl) rfl rfl ?_
 refine lo rfl (pr_cmp (bo := .lss) (nc_lt (a := n + k) (b := n + 3)) rfl rfl rfl rfl) rfl rfl ?_
 refine L_nil ?_
 refine T_cond (decide (n + k < n + 3)) rfl (fun hc_4 => ?_) (fun hc_4 => ?_)
 ·
  have hc_4 := of_decide_eq_true hc_4
  refine T_skip ?_
  refine T_seq ?_
  refine T_block ?_
  refine Tsr hF rfl ?_
  refine lm rfl rfl rfl rfl rfl ?_
  refine lm rfl rfl rfl rfl rfl ?_
  refine lo rfl (pr_ixs1 (j := n + k) (src_none (src_rd 0 rfl)) sd Try.underlying23 kr rfl rfl rfl) rfl rfl ?_
  refine lq rfl (ld_src (m := n + k) (src_rd 0 rfl) (get8 sd) Try.underlying5 rfl rfl rfl) rfl rfl ?_
  refine lm rfl rfl rfl rfl rfl ?_
  refine lo rfl (pr_cmp (bo := .neq) (n8_bne (ath (List.take (n + 3) (xs ++ [f, f, f])) (n + k)) f) rfl rfl rfl rfl) rfl rfl ?_
  refine L_nil ?_
  refine T_cond_no (t := ((ath (List.take (n + 3) (xs ++ [f, f, f])) (n + k)) != f)) rfl (by rw [own_at xs f n k hx (by omega)]; simp) ?_
  refine T_skip ?_
  refine T_reg hF rfl ?_
  refine lm rfl rfl rfl rfl rfl ?_
  refine lo rfl (pr_add (na_i64 (a := n + k) (b := 1) sd) rfl rfl rfl) rfl rfl ?_
  refine la rfl rfl rfl rfl rfl ?_
  refine L_nil ?_
  refine T_slot 8 (.int .i64 ((n + k + 1 : Nat) : Int)) (.int .i64 ((n + (k + 1) : Nat) : Int)) rfl (by congr 1) ?_
  exact T_again (k + 1) (by first | trivial | ((try dsimp only); first | omega | (refine ⟨?_, ?_⟩ <;> omega) | (refine ⟨?_, ?_, ?_⟩ <;> omega) | (simp; done) | (simp; omega))) (by first | trivial | ((try dsimp only); first | omega | (refine ⟨?_, ?_⟩ <;> omega) | (refine ⟨?_, ?_, ?_⟩ <;> omega) | (simp; done) | (simp; omega))) (sc rfl (sc rfl (sc rfl sn))) [0, 1, 2, 3] ⟨by decide, rfl⟩
 ·
  have hc_4 := of_decide_eq_false hc_4
  refine T_exit rfl ?_
  refine Tsr hF rfl ?_
  refine la rfl rfl rfl rfl rfl ?_
  refine L_nil ?_
  refine T_ret ?_
  exact T_fin () (by first | trivial | omega | (simp; done)) (res1 rfl rfl) [] ⟨by decide, rfl⟩ rfl
end Go.Proofs.Ytlplpmkdebemnaa
namespace Go.Proofs.Ytlplpmkdebemnaa
set_option linter.unusedVariables false
set_option linter.unusedSimpArgs false
set_option linter.unnecessarySimpa false
set_option maxRecDepth 100000
open Go.RowKit Bv Fw

/-- Numbers, eight bytes each, the lowest first. -/
def eights : List (BitVec 64) → List (BitVec 8)
  | [] => []
  | x :: xs => lowb x 8 ++ eights xs
theorem eights_len : ∀ xs, (eights xs).length = 8 * xs.length
  | [] => rfl
  | x :: xs => by rw [eights, List.length_append, lowb_len, eights_len xs, List.length_cons]; omega
theorem eights_app (xs ys : List (BitVec 64)) : eights (xs ++ ys) = eights xs ++ eights ys := by
  induction xs with
  | nil => rfl
  | cons x xs ih => rw [List.cons_append, eights, eights, ih, List.append_assoc]
theorem eights_take (xs : List (BitVec 64)) (k : Nat) (h : k < xs.length) : eights (xs.take (k + 1)) = eights (xs.take k) ++ lowb (ath xs k) 8 := by
  rw [List.take_succ_eq_append_getElem h, eights_app, ath_get xs k h]
  simp [eights]
/-- The numbers that bytes are. -/
def wds (b : List (BitVec 8)) : Nat → List (BitVec 64)
  | 0 => []
  | k + 1 => wds b k ++ [low (List.take 8 (List.drop (8 * k) b)) 8]
theorem wds_len (b : List (BitVec 8)) : ∀ k, (wds b k).length = k
  | 0 => rfl
  | k + 1 => by rw [wds, List.length_append, wds_len b k]; rfl
theorem num8 (b : List (BitVec 8)) : ((((((((0#64 <<< 8 ||| (ath b 7).setWidth 64) <<< 8 ||| (ath b 6).setWidth 64) <<< 8 ||| (ath b 5).setWidth 64) <<< 8 ||| (ath b 4).setWidth 64) <<< 8 ||| (ath b 3).setWidth 64) <<< 8 ||| (ath b 2).setWidth 64) <<< 8 ||| (ath b 1).setWidth 64) <<< 8 ||| (ath b 0).setWidth 64) = low b 8 := by
  simp only [low]
  generalize (ath b 0).setWidth 64 = x0
  generalize (ath b 1).setWidth 64 = x1
  generalize (ath b 2).setWidth 64 = x2
  generalize (ath b 3).setWidth 64 = x3
  generalize (ath b 4).setWidth 64 = x4
  generalize (ath b 5).setWidth 64 = x5
  generalize (ath b 6).setWidth 64 = x6
  generalize (ath b 7).setWidth 64 = x7
  simp only [BitVec.shiftLeft_or_distrib, ← BitVec.shiftLeft_add, BitVec.zero_shiftLeft, BitVec.zero_or, Nat.reduceAdd, Nat.reduceMul, BitVec.shiftLeft_zero]
  generalize x1 <<< 8 = y1
  generalize x2 <<< 16 = y2
  generalize x3 <<< 24 = y3
  generalize x4 <<< 32 = y4
  generalize x5 <<< 40 = y5
  generalize x6 <<< 48 = y6
  generalize x7 <<< 56 = y7
  clear b
  ac_rfl

set_option maxHeartbeats 4000000 in
theorem vals64_seq (xs : List (BitVec 64)) (A : Option Addr) (n : Nat) (c : Nat) (g1 : Nat) (hx : xs.length = n) (hn : n ≤ 1000000) : SeqC (Θ := Unit) Try.prog 74 [(.pointer (some ⟨g1, 0, none⟩))] [.rd (some ⟨g1, 0, none⟩) 1 1 1 [(.slice A n c)], .rd A 1 n c (xs.map b64)] n (fun k _ => [(b64 (ath xs k))]) (fun k _ => []) := by
 have hF : Wid Fence.wide := wid_wide
 refine enter_seq (c := _) Try.func74 rfl (by rw [Try.ntmps74]; rfl) rfl ?_
 intro l J Jx W O R hsJ hsX hy hend
 rw [Try.ntmps74]
 refine T_re [(0, (.func (.yield l) #[] #[])), (1, (.pointer (some ⟨g1, 0, none⟩)))] (sc rfl (sc rfl sn)) ?_
 refine T_he [0, 1, 2] [.inv W.heap.size O R (J 0 O R), .rd (some ⟨g1, 0, none⟩) 1 1 1 [(.slice A n c)], .rd A 1 n c (xs.map b64)] ⟨by decide, rfl⟩ ?_
 refine Tsr hF rfl ?_
 refine lq rfl (ld_rdb (src_rd 1 rfl) rfl Try.underlying69 rfl rfl rfl) rfl rfl ?_
 refine lo rfl (pr_len_sl Try.underlying69 rfl rfl) rfl rfl ?_
 refine lm rfl rfl rfl rfl rfl ?_
 refine L_nil ?_
 refine T_block ?_
 refine T_loop (T := Nat × List Nat × List Nat) (fun ⟨k, O, R⟩ => k ≤ n) (fun ⟨k, O, R⟩ => [(0, (.func (.yield l) #[] #[])), (5, (.slice A n c)), (6, (.int .i64 ((n : Nat) : Int))), (7, (.int .i64 ((k : Nat) : Int)))]) (fun ⟨k, O, R⟩ => [.inv W.heap.size O R (J k O R), .rd (some ⟨g1, 0, none⟩) 1 1 1 [(.slice A n c)], .rd A 1 n c (xs.map b64)]) (fun ⟨k, O, R⟩ => n - k) (0, O, R) (by first | trivial | ((try dsimp only); first | omega | (refine ⟨?_, ?_⟩ <;> omega) | (refine ⟨?_, ?_, ?_⟩ <;> omega) | (simp; done) | (simp; omega))) (sc rfl (sc rfl (sc rfl (sc rfl sn)))) [0, 1, 2] ⟨by decide, rfl⟩ ?_
 rintro ⟨k, O, R⟩ hp
 have hp : k ≤ n := hp
 refine T_re [(0, (.func (.yield l) #[] #[])), (5, (.slice A n c)), (6, (.int .i64 ((n : Nat) : Int))), (7, (.int .i64 ((k : Nat) : Int)))] (sc rfl (sc rfl (sc rfl (sc rfl sn)))) ?_
 refine T_he [0, 1, 2] [.inv W.heap.size O R (J k O R), .rd (some ⟨g1, 0, none⟩) 1 1 1 [(.slice A n c)], .rd A 1 n c (xs.map b64)] ⟨by decide, rfl⟩ ?_
 refine Tsr hF rfl ?_
 refine lo rfl (pr_cmp (bo := .lss) (nc_lt (a := k) (b := n)) rfl rfl rfl rfl) rfl rfl ?_
 refine L_nil ?_
 refine T_seq ?_
 refine T_cond (decide (k < n)) rfl (fun hc_1 => ?_) (fun hc_1 => ?_)
 ·
  have hc_1 := of_decide_eq_true hc_1
  refine T_skip ?_
  refine T_seq ?_
  refine T_block ?_
  refine Tsr hF rfl ?_
  refine lo rfl (pr_ixs1 (j := k) (src_none (src_rd 2 rfl)) sd Try.underlying69 kr rfl rfl rfl) rfl rfl ?_
  refine lq rfl (ld_src (m := k) (src_rd 2 rfl) (get64 sd) Try.underlying30 rfl rfl rfl) rfl rfl ?_
  refine la rfl rfl rfl rfl rfl ?_
  refine L_nil ?_
  refine T_seq ?_
  refine T_regI ?_
  refine LI_opP hF rfl rfl (op_pr (pr_move rfl rfl) rfl rfl ?_)
  refine LI_opP hF rfl rfl (op_pr (pr_move rfl rfl) rfl rfl ?_)
  refine LI_op rfl (op_yield (k := k) () hy sd hsJ hsX 0 rfl [] rfl rfl rfl rfl rfl rfl rfl rfl rfl (fun _ => trivial) (fun O2 R3 => ?_) (fun O4 R5 => ?_))
  ·
   refine LI_opP hF rfl rfl (op_pr (pr_un (v := .bool false) rfl rfl rfl) rfl rfl ?_)
   refine LI_nil ?_
   refine T_cond_f rfl ?_
   refine T_skip ?_
   refine T_reg hF rfl ?_
   refine lo rfl (pr_add (na_i64 (a := k) (b := 1) sd) rfl rfl rfl) rfl rfl ?_
   refine lm rfl rfl rfl rfl rfl ?_
   refine L_nil ?_
   exact T_again (k + 1, O2, R3) (by first | trivial | ((try dsimp only); first | omega | (refine ⟨?_, ?_⟩ <;> omega) | (refine ⟨?_, ?_, ?_⟩ <;> omega) | (simp; done) | (simp; omega))) (by first | trivial | ((try dsimp only); first | omega | (refine ⟨?_, ?_⟩ <;> omega) | (refine ⟨?_, ?_, ?_⟩ <;> omega) | (simp; done) | (simp; omega))) (sc rfl (sc rfl (sc rfl (sc rfl sn)))) [0, 1, 2] ⟨by decide, rfl⟩
  ·
   refine LI_opP hF rfl rfl (op_pr (pr_un (v := .bool true) rfl rfl rfl) rfl rfl ?_)
   refine LI_nil ?_
   refine T_cond_t rfl ?_
   refine T_ret ?_
   exact T_finX rfl rfl 0 rfl
 ·
  have hc_1 := of_decide_eq_false hc_1
  refine T_exit rfl ?_
  obtain rfl : k = n := by omega
  exact T_finJ rfl rfl 0 rfl
set_option maxHeartbeats 4000000 in
theorem vals64_f (A : Option Addr) (n : Nat) (c : Nat) (w : World) (hO : HOK [] w)  : Calls Try.prog 62 [(.slice A n c)].toArray w (Ret (T := Nat) [] w (fun g1 => True) (fun g1 => (.func (.func 74) #[] [(.pointer (some ⟨g1, 0, none⟩))].toArray)) (fun g1 => [.old (some ⟨g1, 0, none⟩) 1 1 1 [(.slice A n c)]])) := by
 have hF : Wid Fence.wide := wid_wide
 refine enter (c := _) Try.func62 rfl [] _ [] (by rw [Try.ntmps62]; rfl) (own_rds hO rfl) ?_
 rw [Try.ntmps62]
 refine T_re [(0, (.slice A n c))] (sc rfl sn) ?_
 refine T_he [] [] ⟨by decide, rfl⟩ ?_
 refine Tsr hF rfl ?_
 refine L_op rfl (op_box (zs := [(.slice A n c)]) rfl rfl rfl rfl rfl (fun g1 => ?_))
 refine la rfl rfl rfl rfl rfl ?_
 refine L_nil ?_
 refine Tsr hF rfl ?_
 refine lo rfl (pr_mkfn (us := []) (vs := [(.pointer (some ⟨g1, 0, none⟩))]) rfl rfl rfl) rfl rfl ?_
 refine la rfl rfl rfl rfl rfl ?_
 refine L_nil ?_
 refine T_ret ?_
 refine T_oldb 0 (zs := [(.slice A n c)]) 0 1 1 1 rfl rfl rfl sd sd ?_
 exact T_fin g1 (by first | trivial | omega | (simp; done)) (res1 rfl rfl) [0] ⟨by decide, rfl⟩ rfl
set_option maxHeartbeats 4000000 in
theorem lbytes_f (xs : List (BitVec 64)) (A : Option Addr) (n : Nat) (c : Nat) (w : World) (hO : HOK [.rd A 1 n c (xs.map b64)] w) (hx : xs.length = n) (hn : n ≤ 100) : Calls Try.prog 39 [(.slice A n c)].toArray w (Ret (T := Option Addr × Nat) [] w (fun ⟨B, d⟩ => True) (fun ⟨B, d⟩ => (.slice B (8 * n) d)) (fun ⟨B, d⟩ => [.row (.slice B (8 * n) d) 5 1 (8 * n) ((eights xs).map b8)])) := by
 have hF : Wid Fence.wide := wid_wide
 refine enter_m (c := _) Try.func39 rfl [] _ [.rd A 1 n c (xs.map b64)] (by rw [Try.ntmps39]; rfl) (own_rds hO rfl) ?_
 rw [Try.ntmps39]
 refine T_re [(0, (.slice A n c))] (sc rfl sn) ?_
 refine T_he [0] [.rd A 1 n c (xs.map b64)] ⟨by decide, rfl⟩ ?_
 refine Tsr hF rfl ?_
 refine la rfl rfl rfl rfl rfl ?_
 refine L_nil ?_
 refine Tsr hF rfl ?_
 refine L_op rfl (op_alloc (z := (.slice none 0 0)) (zs := [(.slice none 0 0)]) kr rfl rfl rfl rfl (fun g1 => ?_))
 refine L_nil ?_
 refine T_seq ?_
 refine Tsr hF rfl ?_
 refine lm rfl rfl rfl rfl rfl ?_
 refine L_op rfl (op_cn (fun w hw => vals64_f A n c w (hok_nil w) ) (enters_of Try.func62 kr rfl) rfl rfl rfl rfl rfl (fun t2 q3 => ?_))
 obtain ⟨g1_4, eg1_4⟩ : ∃ x, x = t2 := ⟨_, rfl⟩
 subst eg1_4
 refine L_nil ?_
 refine T_block ?_
 refine T_tord 0 rfl ?_
 refine T_nilrow 5 1 ?_
 refine T_as 0 _ (.row (.slice none (8 * 0) 0) 5 1 (8 * 0) ((eights (xs.take 0)).map b8)) rfl (by first | rfl | simp | (congr 1; simp)) ?_
 refine T_as 2 _ (.blk g1 23 [(.slice none (8 * 0) 0)]) rfl (by first | rfl | simp | (congr 1; simp)) ?_
 refine T_range (Θ := Unit) (T := Option Addr × Nat) (Tx := Unit) (cap := [(.pointer (some ⟨g1_4, 0, none⟩))]) (ps := [7]) (vals64_seq xs A n c g1_4 sd sd) rfl (enters_of Try.func74 kr rfl) (fun k ⟨A1, c1⟩ => k ≤ n) (fun k ⟨A1, c1⟩ => [.row (.slice A1 (8 * k) c1) 5 1 (8 * k) ((eights (xs.take k)).map b8), .blk g1 23 [(.slice A1 (8 * k) c1)], .rd A 1 n c (xs.map b64)]) (fun _ => False) (fun _ => []) 0 (none, 0) (by omega) [1, 0, 3] ⟨by decide, rfl⟩ [2, 3] rfl rfl (fun _ _ => rfl) (fun _ => rfl) (fun _ _ => rfl) (fun _ _ => rfl) rfl (fun _ => trivial) ?_ ?_ ?_
 ·
  intro C2 w2 lo2 rs2 l D m k t th rc hrec hk hp
  obtain ⟨A1, c1⟩ := t
  have hp : k ≤ n := hp
  have hk : k < n := hk
  have hF : Wid (Fence.wide.inRound l) := wid_round l
  refine T_re [(3, (.pointer (some ⟨g1, 0, none⟩))), (7, (b64 (ath xs k)))] (sc rfl (sc rfl sn)) ?_
  refine T_he [0, 1, 2, 3, 4] [.obj l (.loop rc), .obj D (.deferred (some [])), .row (.slice A1 (8 * k) c1) 5 1 (8 * k) ((eights (xs.take k)).map b8), .blk g1 23 [(.slice A1 (8 * k) c1)], .rd A 1 n c (xs.map b64)] ⟨by decide, rfl⟩ ?_
  refine T_reg hF rfl ?_
  refine la rfl rfl rfl rfl rfl ?_
  refine L_nil ?_
  refine T_begun 0 rfl hrec ?_
  refine T_block ?_
  refine T_reg hF rfl ?_
  refine lq rfl (ld_blk 3 rfl rfl Try.underlying23 rfl rfl rfl) rfl rfl ?_
  refine lm rfl rfl rfl rfl rfl ?_
  refine L_op rfl (op_c1 2 rfl (fun w hw => putLow_f (eights (xs.take k)) (ath xs k) 8 A1 (8 * k) c1 w (hw _ (List.mem_of_getElem? (i := 2) rfl)) sd sd) (enters_of Try.func60 kr rfl) rfl rfl rfl rfl rfl (fun t5 q6 => ?_))
  obtain ⟨B7, d8⟩ := t5
  refine L_op rfl (op_store (vs := [(.slice B7 ((8 * k) + 8) d8)]) (cs' := [(.slice B7 ((8 * k) + 8) d8)]) 3 rfl rfl kr (one_one rfl) (by first | decide | simp | exact Nat.le_refl _) rfl rfl rfl rfl rfl ?_)
  refine L_nil ?_
  refine T_as 1 _ (.row (.slice B7 (8 * (k + 1)) d8) 5 1 (8 * (k + 1)) ((eights (xs.take (k + 1))).map b8)) rfl (by rw [eights_take _ _ (by omega)]; rfl) ?_
  refine T_as 1 _ (.blk g1 23 [(.slice B7 (8 * (k + 1)) d8)]) rfl (by congr 1) ?_
  exact T_on (B7, d8) (by omega) [2, 3, 1, 0, 4] ⟨by decide, rfl⟩
 ·
  intro D t hp
  obtain ⟨A1, c1⟩ := t
  have hp : n ≤ n := hp
  refine T_re [(3, (.pointer (some ⟨g1, 0, none⟩)))] (sc rfl sn) ?_
  refine T_he [0, 1, 2, 3] [.obj D (.deferred (some [])), .row (.slice A1 (8 * n) c1) 5 1 (8 * n) ((eights (xs.take n)).map b8), .blk g1 23 [(.slice A1 (8 * n) c1)], .rd A 1 n c (xs.map b64)] ⟨by decide, rfl⟩ ?_
  refine Tsr hF rfl ?_
  refine lq rfl (ld_blk 2 rfl rfl Try.underlying23 rfl rfl rfl) rfl rfl ?_
  refine la rfl rfl rfl rfl rfl ?_
  refine L_nil ?_
  refine T_ret ?_
  refine T_as 1 _ (.row (.slice A1 (8 * n) c1) 5 1 (8 * n) ((eights xs).map b8)) rfl (by rw [List.take_of_length_le (by omega)]) ?_
  exact T_finM 1 rfl (A1, c1) (by first | trivial | omega | (simp; done)) (res1 rfl rfl) [0] ⟨by decide, rfl⟩ rfl
 ·
  exact fun D t hq => hq.elim
set_option maxHeartbeats 4000000 in
theorem lwords_f (b : List (BitVec 8)) (q : Nat) (A : Option Addr) (n : Nat) (c : Nat) (w : World) (hO : HOK [.rd A 1 n c (b.map b8)] w) (hb : b.length = n) (hn : n = 8 * q) (hm : q ≤ 100) : Calls Try.prog 37 [(.slice A n c)].toArray w (Ret (T := Option Addr × Nat) [] w (fun ⟨B, d⟩ => True) (fun ⟨B, d⟩ => (.slice B q d)) (fun ⟨B, d⟩ => [.row (.slice B q d) 30 1 q ((wds b q).map b64)])) := by
 have hF : Wid Fence.wide := wid_wide
 refine enter_m (c := _) Try.func37 rfl [] _ [.rd A 1 n c (b.map b8)] (by rw [Try.ntmps37]; rfl) (own_rds hO rfl) ?_
 rw [Try.ntmps37]
 refine T_re [(0, (.slice A n c))] (sc rfl sn) ?_
 refine T_he [0] [.rd A 1 n c (b.map b8)] ⟨by decide, rfl⟩ ?_
 refine Tsr hF rfl ?_
 refine la rfl rfl rfl rfl rfl ?_
 refine L_nil ?_
 refine Tsr hF rfl ?_
 refine L_op rfl (op_alloc (z := (.slice none 0 0)) (zs := [(.slice none 0 0)]) kr rfl rfl rfl rfl (fun g1 => ?_))
 refine L_nil ?_
 refine T_seq ?_
 refine Tsr hF rfl ?_
 refine lm rfl rfl rfl rfl rfl ?_
 refine L_op rfl (op_cn (fun w hw => chunk_f A n c 8 w (hok_nil w) sd) (enters_of Try.func44 kr rfl) rfl rfl rfl rfl rfl (fun t2 q3 => ?_))
 obtain ⟨g1_4, g2_5⟩ := t2
 refine L_nil ?_
 refine T_block ?_
 refine T_tord 0 rfl ?_
 refine T_tord 1 rfl ?_
 refine T_nilrow 30 1 ?_
 refine T_as 0 _ (.row (.slice none 0 0) 30 1 0 ((wds b 0).map b64)) rfl (by first | rfl | simp | (congr 1; simp)) ?_
 refine T_range (Θ := Option Addr) (T := Option Addr × Nat) (Tx := Unit) (cap := [(.pointer (some ⟨g1_4, 0, none⟩)), (.pointer (some ⟨g2_5, 0, none⟩))]) (ps := [7]) (chunk_seq b 8 A n c g1_4 g2_5 sd sd sd sd) rfl (enters_of Try.func65 kr rfl) (fun k ⟨A1, c1⟩ => k ≤ q) (fun k ⟨A1, c1⟩ => [.row (.slice A1 k c1) 30 1 k ((wds b k).map b64), .rd (some ⟨g1_4, 0, none⟩) 1 1 1 [(.slice A n c)], .blk g1 69 [(.slice A1 k c1)], .rd A 1 n c (b.map b8)]) (fun _ => False) (fun _ => []) 0 (none, 0) (by omega) [0, 2, 3, 4] ⟨by decide, rfl⟩ [2, 1, 4] rfl rfl (fun _ _ => rfl) (fun _ => rfl) (fun _ _ => rfl) (fun _ _ => rfl) rfl (fun _ => trivial) ?_ ?_ ?_
 ·
  intro C2 w2 lo2 rs2 l D m k t th rc hrec hk hp
  obtain ⟨A1, c1⟩ := t
  obtain ⟨B, rfl⟩ : ∃ x, x = th := ⟨_, rfl⟩
  have hp : k ≤ q := hp
  have hk : k < (n + 8 - 1) / 8 := hk
  have hF : Wid (Fence.wide.inRound l) := wid_round l
  refine T_re [(3, (.pointer (some ⟨g1, 0, none⟩))), (7, (.slice B (min 8 (n - 8 * k)) (min 8 (n - 8 * k))))] (sc rfl (sc rfl sn)) ?_
  refine T_he [0, 1, 2, 3, 4, 5, 6] [.rd B 1 (min 8 (n - 8 * k)) (min 8 (n - 8 * k)) ((List.take (min 8 (n - 8 * k)) (List.drop (8 * k) b)).map b8), .obj l (.loop rc), .obj D (.deferred (some [])), .row (.slice A1 k c1) 30 1 k ((wds b k).map b64), .rd (some ⟨g1_4, 0, none⟩) 1 1 1 [(.slice A n c)], .blk g1 69 [(.slice A1 k c1)], .rd A 1 n c (b.map b8)] ⟨by decide, rfl⟩ ?_
  refine T_reg hF rfl ?_
  refine la rfl rfl rfl rfl rfl ?_
  refine L_nil ?_
  refine T_begun 1 rfl hrec ?_
  refine T_block ?_
  refine T_regD [.obj l (.loop { rc with state := .busy }), .rd B 1 (min 8 (n - 8 * k)) (min 8 (n - 8 * k)) ((List.take (min 8 (n - 8 * k)) (List.drop (8 * k) b)).map b8), .obj D (.deferred (some [])), .row (.slice A1 k c1) 30 1 k ((wds b k).map b64), .rd (some ⟨g1_4, 0, none⟩) 1 1 1 [(.slice A n c)], .blk g1 69 [(.slice A1 k c1)], .rd A 1 n c (b.map b8)] 4 6 #[false, false, false, false, false, false] hF kr kr ?_
  refine D_pure (i := 1) [0, 1, 2, 3, 4, 5, 6] rfl kr rfl (pr_move rfl rfl) (.inr rfl) rfl rfl ?_
  refine D_take (i := 0) [0, 1, 2, 3, 4, 5, 6] rfl kr rfl (ld_blk 5 rfl rfl Try.underlying69 rfl rfl rfl) rfl rfl rfl ?_
  refine D_one 2 _ rfl kr rfl (op_cn (fun w hw => low_f (List.take (min 8 (n - 8 * k)) (List.drop (8 * k) b)) 8 B (min 8 (n - 8 * k)) (min 8 (n - 8 * k)) w (hok_cons ((src_rd 1 rfl) w hw) (hok_nil w)) sd sd sd) (enters_of Try.func61 kr rfl) rfl rfl rfl rfl rfl (fun t6 q7 => ?_))
  refine D_on [0, 1, 2, 3, 4, 5, 6] rfl ?_
  refine D_one 3 _ rfl kr rfl (op_bslice (e := 30) (zs := [(b64 (low (List.take (min 8 (n - 8 * k)) (List.drop (8 * k) b)) 8))]) (qs := [(0, (b64 (low (List.take (min 8 (n - 8 * k)) (List.drop (8 * k) b)) 8)))]) (fun _ => by kernel_rfl) rfl rfl rfl rfl (fun g8 => ?_))
  refine D_on [1, 2, 3, 4, 5, 6, 7] rfl ?_
  refine D_one 4 _ rfl kr rfl (op_append (z := (b64 (0#64))) (size := 1) (bytes := 8) 4 rfl Try.underlying69 kr kr (by decide) (src_full (z := 1) 0 rfl rfl sd sd) (by simp [Value.oneCell']) sd sd rfl rfl rfl rfl rfl (fun A9 C10 => ?_))
  refine T_as 0 _ (.row (.slice A9 (k + 1) C10) 30 1 (k + 1) (((wds b k) ++ [(low (List.take (min 8 (n - 8 * k)) (List.drop (8 * k) b)) 8)]).map b64)) rfl (by first | rfl | (congr 1; simp; done) | (simp only [List.map_append]; rfl) | (rw [List.map_append]; rfl)) ?_
  refine D_past kr ?_
  refine D_one 5 _ rfl kr rfl (op_store (vs := [(.slice A9 (k + 1) C10)]) (cs' := [(.slice A9 (k + 1) C10)]) 6 rfl rfl kr (one_one rfl) (by first | decide | simp | exact Nat.le_refl _) rfl rfl rfl rfl rfl ?_)
  refine D_past kr ?_
  refine D_done kr ?_
  refine T_as 1 _ (.row (.slice A9 (k + 1) C10) 30 1 (k + 1) ((wds b (k + 1)).map b64)) rfl (by rw [wds, show min 8 (n - 8 * k) = 8 from by omega]) ?_
  exact T_on (A9, C10) (by dsimp only; omega) [3, 5, 0, 6, 1, 7] ⟨by decide, rfl⟩
 ·
  intro D t hp
  obtain ⟨A1, c1⟩ := t
  have hp : ((n + 8 - 1) / 8) ≤ q := hp
  refine T_re [(3, (.pointer (some ⟨g1, 0, none⟩)))] (sc rfl sn) ?_
  refine T_he [0, 1, 2, 3, 4] [.obj D (.deferred (some [])), .row (.slice A1 ((n + 8 - 1) / 8) c1) 30 1 ((n + 8 - 1) / 8) ((wds b ((n + 8 - 1) / 8)).map b64), .rd (some ⟨g1_4, 0, none⟩) 1 1 1 [(.slice A n c)], .blk g1 69 [(.slice A1 ((n + 8 - 1) / 8) c1)], .rd A 1 n c (b.map b8)] ⟨by decide, rfl⟩ ?_
  refine Tsr hF rfl ?_
  refine lq rfl (ld_blk 3 rfl rfl Try.underlying69 rfl rfl rfl) rfl rfl ?_
  refine la rfl rfl rfl rfl rfl ?_
  refine L_nil ?_
  refine T_ret ?_
  refine T_slot 2 (.slice A1 ((n + 8 - 1) / 8) c1) (.slice A1 q c1) rfl (by rw [show (n + 8 - 1) / 8 = q from by omega]) ?_
  refine T_as 1 _ (.row (.slice A1 q c1) 30 1 q ((wds b q).map b64)) rfl (by rw [show (n + 8 - 1) / 8 = q from by omega]) ?_
  exact T_finM 1 rfl (A1, c1) (by first | trivial | omega | (simp; done)) (res1 rfl rfl) [0] ⟨by decide, rfl⟩ rfl
 ·
  exact fun D t hq => hq.elim
set_option maxHeartbeats 4000000 in
theorem r8eight_f (v : BitVec 64) (w : World) (hO : HOK [] w)  : Calls Try.prog 51 [(b64 v)].toArray w (Ret (T := Option Addr × Nat) [] w (fun ⟨B, d⟩ => True) (fun ⟨B, d⟩ => (.slice B 8 d)) (fun ⟨B, d⟩ => [.row (.slice B 8 d) 5 1 8 ((lowb v 8).map b8)])) := by
 have hF : Wid Fence.wide := wid_wide
 refine enter (c := _) Try.func51 rfl [] _ [] (by rw [Try.ntmps51]; rfl) (own_rds hO rfl) ?_
 rw [Try.ntmps51]
 refine T_re [(0, (b64 v))] (sc rfl sn) ?_
 refine T_he [] [] ⟨by decide, rfl⟩ ?_
 refine Tsr hF rfl ?_
 refine la rfl rfl rfl rfl rfl ?_
 refine L_nil ?_
 refine Tsr hF rfl ?_
 refine la rfl rfl rfl rfl rfl ?_
 refine L_nil ?_
 refine T_seq ?_
 refine Tsr hF rfl ?_
 refine la rfl rfl rfl rfl rfl ?_
 refine L_nil ?_
 refine T_block ?_
 refine T_nilrow 5 1 ?_
 refine T_as 0 _ (.row (.slice none 0 0) 5 1 0 ((lowb v 0).map b8)) rfl (by first | rfl | simp | (congr 1; simp)) ?_
 refine T_loop (T := Nat × Option Addr × Nat) (fun ⟨k, A1, c1⟩ => k ≤ 8) (fun ⟨k, A1, c1⟩ => [(0, (b64 v)), (3, (.slice A1 k c1)), (4, (.int .i64 ((k : Nat) : Int)))]) (fun ⟨k, A1, c1⟩ => [.row (.slice A1 k c1) 5 1 k ((lowb v k).map b8)]) (fun ⟨k, A1, c1⟩ => 8 - k) (0, none, 0) (by first | trivial | ((try dsimp only); first | omega | (refine ⟨?_, ?_⟩ <;> omega) | (refine ⟨?_, ?_, ?_⟩ <;> omega) | (simp; done) | (simp; omega))) (sc rfl (sc rfl (sc rfl sn))) [0] ⟨by decide, rfl⟩ ?_
 rintro ⟨k, A1, c1⟩ hp
 have hp : k ≤ 8 := hp
 refine T_re [(0, (b64 v)), (3, (.slice A1 k c1)), (4, (.int .i64 ((k : Nat) : Int)))] (sc rfl (sc rfl (sc rfl sn))) ?_
 refine T_he [0] [.row (.slice A1 k c1) 5 1 k ((lowb v k).map b8)] ⟨by decide, rfl⟩ ?_
 refine T_seq ?_
 refine Tsr hF rfl ?_
 refine lm rfl rfl rfl rfl rfl ?_
 refine lo rfl (pr_cmp (bo := .lss) (nc_lt (a := k) (b := 8)) rfl rfl rfl rfl) rfl rfl ?_
 refine L_nil ?_
 refine T_cond (decide (k < 8)) rfl (fun hc_1 => ?_) (fun hc_1 => ?_)
 ·
  have hc_1 := of_decide_eq_true hc_1
  refine T_skip ?_
  refine T_seq ?_
  refine T_block ?_
  refine T_reg hF rfl ?_
  refine lm rfl rfl rfl rfl rfl ?_
  refine lm rfl rfl rfl rfl rfl ?_
  refine lm rfl rfl rfl rfl rfl ?_
  refine lo rfl (pr_mul (nm_i64 (a := 8) (b := k) sd) rfl rfl rfl) rfl rfl ?_
  refine lo rfl (pr_cv (ni_u64 (a := 8 * k) sd) Try.underlying3 Try.underlying22 rfl rfl) rfl rfl ?_
  refine lo rfl (pr_shift (sh_shr64 v _ (8 * k)) rfl rfl rfl rfl) rfl rfl ?_
  refine lo rfl (pr_cv (cv64_8 _) Try.underlying30 Try.underlying5 rfl rfl) rfl rfl ?_
  refine L_op rfl (op_bslice (e := 5) (zs := [(b8 ((v >>> (8 * k)).setWidth 8))]) (qs := [(0, (b8 ((v >>> (8 * k)).setWidth 8)))]) (fun _ => by kernel_rfl) rfl rfl rfl rfl (fun g2 => ?_))
  refine L_op rfl (op_append (z := (b8 (0#8))) (size := 1) (bytes := 1) 1 rfl Try.underlying23 kr kr (by decide) (src_full (z := 1) 0 rfl rfl sd sd) (by simp [Value.oneCell']) sd sd rfl rfl rfl rfl rfl (fun A3 C4 => ?_))
  refine T_as 0 _ (.row (.slice A3 (k + 1) C4) 5 1 (k + 1) (((lowb v k) ++ [((v >>> (8 * k)).setWidth 8)]).map b8)) rfl (by first | rfl | (congr 1; simp; done) | (simp only [List.map_append]; rfl) | (rw [List.map_append]; rfl)) ?_
  refine la rfl rfl rfl rfl rfl ?_
  refine L_nil ?_
  refine T_reg hF rfl ?_
  refine lm rfl rfl rfl rfl rfl ?_
  refine lo rfl (pr_add (na_i64 (a := k) (b := 1) sd) rfl rfl rfl) rfl rfl ?_
  refine la rfl rfl rfl rfl rfl ?_
  refine L_nil ?_
  refine T_as 0 _ (.row (.slice A3 (k + 1) C4) 5 1 (k + 1) ((lowb v (k + 1)).map b8)) rfl (by first | rfl | simp | (congr 1; simp)) ?_
  exact T_again (k + 1, A3, C4) (by first | trivial | ((try dsimp only); first | omega | (refine ⟨?_, ?_⟩ <;> omega) | (refine ⟨?_, ?_, ?_⟩ <;> omega) | (simp; done) | (simp; omega))) (by first | trivial | ((try dsimp only); first | omega | (refine ⟨?_, ?_⟩ <;> omega) | (refine ⟨?_, ?_, ?_⟩ <;> omega) | (simp; done) | (simp; omega))) (sc rfl (sc rfl (sc rfl sn))) [0] ⟨by decide, rfl⟩
 ·
  have hc_1 := of_decide_eq_false hc_1
  refine T_exit rfl ?_
  obtain rfl : 8 = k := by omega
  refine Tsr hF rfl ?_
  refine lm rfl rfl rfl rfl rfl ?_
  refine la rfl rfl rfl rfl rfl ?_
  refine L_nil ?_
  refine T_ret ?_
  exact T_fin (A1, c1) (by first | trivial | omega | (simp; done)) (res1 rfl rfl) [0] ⟨by decide, rfl⟩ rfl
set_option maxHeartbeats 4000000 in
theorem r8eights_f (xs : List (BitVec 64)) (A : Option Addr) (n : Nat) (c : Nat) (w : World) (hO : HOK [.rd A 1 n c (xs.map b64)] w) (hx : xs.length = n) (hn : n ≤ 100) : Calls Try.prog 29 [(.slice A n c)].toArray w (Ret (T := Option Addr × Nat) [] w (fun ⟨B, d⟩ => True) (fun ⟨B, d⟩ => (.slice B (8 * n) d)) (fun ⟨B, d⟩ => [.row (.slice B (8 * n) d) 5 1 (8 * n) ((eights xs).map b8)])) := by
 have hF : Wid Fence.wide := wid_wide
 refine enter (c := _) Try.func29 rfl [] _ [.rd A 1 n c (xs.map b64)] (by rw [Try.ntmps29]; rfl) (own_rds hO rfl) ?_
 rw [Try.ntmps29]
 refine T_re [(0, (.slice A n c))] (sc rfl sn) ?_
 refine T_he [0] [.rd A 1 n c (xs.map b64)] ⟨by decide, rfl⟩ ?_
 refine Tsr hF rfl ?_
 refine la rfl rfl rfl rfl rfl ?_
 refine L_nil ?_
 refine Tsr hF rfl ?_
 refine la rfl rfl rfl rfl rfl ?_
 refine L_nil ?_
 refine T_seq ?_
 refine Tsr hF rfl ?_
 refine la rfl rfl rfl rfl rfl ?_
 refine L_nil ?_
 refine T_block ?_
 refine T_slot 3 (.slice none 0 0) (.slice none (8 * 0) 0) rfl (by first | rfl | (congr 2; omega) | (simp; omega)) ?_
 refine T_nilrow 5 1 ?_
 refine T_as 0 _ (.row (.slice none (8 * 0) 0) 5 1 (8 * 0) ((eights (xs.take 0)).map b8)) rfl (by first | rfl | simp | (congr 1; simp)) ?_
 refine T_loop (T := Nat × Option Addr × Nat) (fun ⟨k, A1, c1⟩ => k ≤ n) (fun ⟨k, A1, c1⟩ => [(0, (.slice A n c)), (3, (.slice A1 (8 * k) c1)), (4, (.int .i64 ((k : Nat) : Int)))]) (fun ⟨k, A1, c1⟩ => [.row (.slice A1 (8 * k) c1) 5 1 (8 * k) ((eights (xs.take k)).map b8), .rd A 1 n c (xs.map b64)]) (fun ⟨k, A1, c1⟩ => n - k) (0, none, 0) (by first | trivial | ((try dsimp only); first | omega | (refine ⟨?_, ?_⟩ <;> omega) | (refine ⟨?_, ?_, ?_⟩ <;> omega) | (simp; done) | (simp; omega))) (sc rfl (sc rfl (sc rfl sn))) [0, 1] ⟨by decide, rfl⟩ ?_
 rintro ⟨k, A1, c1⟩ hp
 have hp : k ≤ n := hp
 refine T_re [(0, (.slice A n c)), (3, (.slice A1 (8 * k) c1)), (4, (.int .i64 ((k : Nat) : Int)))] (sc rfl (sc rfl (sc rfl sn))) ?_
 refine T_he [0, 1] [.row (.slice A1 (8 * k) c1) 5 1 (8 * k) ((eights (xs.take k)).map b8), .rd A 1 n c (xs.map b64)] ⟨by decide, rfl⟩ ?_
 refine T_seq ?_
 refine Tsr hF rfl ?_
 refine lm rfl rfl rfl rfl rfl ?_
 refine lm rfl rfl rfl rfl rfl ?_
 refine lo rfl (pr_len_sl Try.underlying69 rfl rfl) rfl rfl ?_
 refine lo rfl (pr_cmp (bo := .lss) (nc_lt (a := k) (b := n)) rfl rfl rfl rfl) rfl rfl ?_
 refine L_nil ?_
 refine T_cond (decide (k < n)) rfl (fun hc_1 => ?_) (fun hc_1 => ?_)
 ·
  have hc_1 := of_decide_eq_true hc_1
  refine T_skip ?_
  refine T_seq ?_
  refine T_block ?_
  refine T_reg hF rfl ?_
  refine lm rfl rfl rfl rfl rfl ?_
  refine lm rfl rfl rfl rfl rfl ?_
  refine lm rfl rfl rfl rfl rfl ?_
  refine lo rfl (pr_ixs1 (j := k) (src_none (src_rd 1 rfl)) sd Try.underlying69 kr rfl rfl rfl) rfl rfl ?_
  refine lq rfl (ld_src (m := k) (src_rd 1 rfl) (get64 sd) Try.underlying30 rfl rfl rfl) rfl rfl ?_
  refine L_op rfl (op_cn (fun w hw => r8eight_f (ath xs k) w (hok_nil w) ) (enters_of Try.func51 kr rfl) rfl rfl rfl rfl rfl (fun t2 q3 => ?_))
  obtain ⟨B4, d5⟩ := t2
  refine L_op rfl (op_append (z := (b8 (0#8))) (size := 1) (bytes := 1) 1 rfl Try.underlying23 kr kr (by decide) (src_row 0 rfl) (all8_one _) sd sd rfl rfl rfl rfl rfl (fun A6 C7 => ?_))
  refine T_as 0 _ (.row (.slice A6 (8 * k + 8) C7) 5 1 (8 * k + 8) (((eights (xs.take k)) ++ (lowb (ath xs k) 8)).map b8)) rfl (by first | rfl | (congr 1; simp; done) | (simp only [List.map_append]; rfl) | (rw [List.map_append]; rfl)) ?_
  refine la rfl rfl rfl rfl rfl ?_
  refine L_nil ?_
  refine T_reg hF rfl ?_
  refine lm rfl rfl rfl rfl rfl ?_
  refine lo rfl (pr_add (na_i64 (a := k) (b := 1) sd) rfl rfl rfl) rfl rfl ?_
  refine la rfl rfl rfl rfl rfl ?_
  refine L_nil ?_
  refine T_slot 3 (.slice A6 (8 * k + 8) C7) (.slice A6 (8 * (k + 1)) C7) rfl (by first | rfl | (congr 2; omega) | (simp; omega)) ?_
  refine T_as 0 _ (.row (.slice A6 (8 * (k + 1)) C7) 5 1 (8 * (k + 1)) ((eights (xs.take (k + 1))).map b8)) rfl (by rw [eights_take _ _ (by omega)]; rfl) ?_
  exact T_again (k + 1, A6, C7) (by first | trivial | ((try dsimp only); first | omega | (refine ⟨?_, ?_⟩ <;> omega) | (refine ⟨?_, ?_, ?_⟩ <;> omega) | (simp; done) | (simp; omega))) (by first | trivial | ((try dsimp only); first | omega | (refine ⟨?_, ?_⟩ <;> omega) | (refine ⟨?_, ?_, ?_⟩ <;> omega) | (simp; done) | (simp; omega))) (sc rfl (sc rfl (sc rfl sn))) [0, 2] ⟨by decide, rfl⟩
 ·
  have hc_1 := of_decide_eq_false hc_1
  refine T_exit rfl ?_
  obtain rfl : n = k := by omega
  refine Tsr hF rfl ?_
  refine lm rfl rfl rfl rfl rfl ?_
  refine la rfl rfl rfl rfl rfl ?_
  refine L_nil ?_
  refine T_ret ?_
  refine T_as 0 _ (.row (.slice A1 (8 * n) c1) 5 1 (8 * n) ((eights xs).map b8)) rfl (by rw [List.take_of_length_le (by omega)]) ?_
  exact T_fin (A1, c1) (by first | trivial | omega | (simp; done)) (res1 rfl rfl) [0] ⟨by decide, rfl⟩ rfl
set_option maxHeartbeats 4000000 in
theorem number_f (b : List (BitVec 8)) (A : Option Addr) (n : Nat) (c : Nat) (w : World) (hO : HOK [.rd A 1 n c (b.map b8)] w) (hn : n = 8) (hb : b.length = n) : Calls Try.prog 38 [(.slice A n c)].toArray w (Ret (T := Unit) [] w (fun _ => True) (fun _ => (b64 (low b 8))) (fun _ => [])) := by
 have hF : Wid Fence.wide := wid_wide
 refine enter (c := _) Try.func38 rfl [] _ [.rd A 1 n c (b.map b8)] (by rw [Try.ntmps38]; rfl) (own_rds hO rfl) ?_
 rw [Try.ntmps38]
 refine T_re [(0, (.slice A n c))] (sc rfl sn) ?_
 refine T_he [0] [.rd A 1 n c (b.map b8)] ⟨by decide, rfl⟩ ?_
 refine Tsr hF rfl ?_
 refine la rfl rfl rfl rfl rfl ?_
 refine L_nil ?_
 refine Tsr hF rfl ?_
 refine la rfl rfl rfl rfl rfl ?_
 refine L_nil ?_
 refine T_seq ?_
 refine Tsr hF rfl ?_
 refine la rfl rfl rfl rfl rfl ?_
 refine L_nil ?_
 refine T_block ?_
 refine T_rounds 9 ?_
 refine T_round ?_
 refine T_seq ?_
 refine Tsr hF rfl ?_
 refine lm rfl rfl rfl rfl rfl ?_
 refine lo rfl (pr_cmp (bo := .geq) (nc_le (a := 0) (b := 7)) rfl rfl rfl rfl) rfl rfl ?_
 refine L_nil ?_
 refine T_cond_t rfl ?_
 refine T_skip ?_
 refine T_seq ?_
 refine T_block ?_
 refine T_reg hF rfl ?_
 refine lm rfl rfl rfl rfl rfl ?_
 refine lo rfl (pr_shift (sh_shl64 (0#64) _ 8) rfl rfl rfl rfl) rfl rfl ?_
 refine lm rfl rfl rfl rfl rfl ?_
 refine lm rfl rfl rfl rfl rfl ?_
 refine lo rfl (pr_ixs1 (j := 7) (src_none (src_rd 0 rfl)) sd Try.underlying23 kr rfl rfl rfl) rfl rfl ?_
 refine lq rfl (ld_src (m := 7) (src_rd 0 rfl) (get8 sd) Try.underlying5 rfl rfl rfl) rfl rfl ?_
 refine lo rfl (pr_cv (cv8_64 _) Try.underlying5 Try.underlying30 rfl rfl) rfl rfl ?_
 refine lo rfl (pr_or (ib_or64 _ _) rfl rfl rfl) rfl rfl ?_
 refine la rfl rfl rfl rfl rfl ?_
 refine L_nil ?_
 refine T_reg hF rfl ?_
 refine lm rfl rfl rfl rfl rfl ?_
 refine lo rfl ((pr_as (pr_sub (ns_i64 (a := 7) (b := 1) sd sd) rfl rfl rfl) (show Value.int .i64 ((7 - 1 : Nat) : Int) = .int .i64 ((6 : Nat) : Int) from rfl))) rfl rfl ?_
 refine la rfl rfl rfl rfl rfl ?_
 refine L_nil ?_
 refine T_round ?_
 refine T_seq ?_
 refine Tsr hF rfl ?_
 refine lm rfl rfl rfl rfl rfl ?_
 refine lo rfl (pr_cmp (bo := .geq) (nc_le (a := 0) (b := 6)) rfl rfl rfl rfl) rfl rfl ?_
 refine L_nil ?_
 refine T_cond_t rfl ?_
 refine T_skip ?_
 refine T_seq ?_
 refine T_block ?_
 refine T_reg hF rfl ?_
 refine lm rfl rfl rfl rfl rfl ?_
 refine lo rfl (pr_shift (sh_shl64 ((0#64 <<< 8) ||| ((ath b 7).setWidth 64)) _ 8) rfl rfl rfl rfl) rfl rfl ?_
 refine lm rfl rfl rfl rfl rfl ?_
 refine lm rfl rfl rfl rfl rfl ?_
 refine lo rfl (pr_ixs1 (j := 6) (src_none (src_rd 0 rfl)) sd Try.underlying23 kr rfl rfl rfl) rfl rfl ?_
 refine lq rfl (ld_src (m := 6) (src_rd 0 rfl) (get8 sd) Try.underlying5 rfl rfl rfl) rfl rfl ?_
 refine lo rfl (pr_cv (cv8_64 _) Try.underlying5 Try.underlying30 rfl rfl) rfl rfl ?_
 refine lo rfl (pr_or (ib_or64 _ _) rfl rfl rfl) rfl rfl ?_
 refine la rfl rfl rfl rfl rfl ?_
 refine L_nil ?_
 refine T_reg hF rfl ?_
 refine lm rfl rfl rfl rfl rfl ?_
 refine lo rfl ((pr_as (pr_sub (ns_i64 (a := 6) (b := 1) sd sd) rfl rfl rfl) (show Value.int .i64 ((6 - 1 : Nat) : Int) = .int .i64 ((5 : Nat) : Int) from rfl))) rfl rfl ?_
 refine la rfl rfl rfl rfl rfl ?_
 refine L_nil ?_
 refine T_round ?_
 refine T_seq ?_
 refine Tsr hF rfl ?_
 refine lm rfl rfl rfl rfl rfl ?_
 refine lo rfl (pr_cmp (bo := .geq) (nc_le (a := 0) (b := 5)) rfl rfl rfl rfl) rfl rfl ?_
 refine L_nil ?_
 refine T_cond_t rfl ?_
 refine T_skip ?_
 refine T_seq ?_
 refine T_block ?_
 refine T_reg hF rfl ?_
 refine lm rfl rfl rfl rfl rfl ?_
 refine lo rfl (pr_shift (sh_shl64 ((((0#64 <<< 8) ||| ((ath b 7).setWidth 64)) <<< 8) ||| ((ath b 6).setWidth 64)) _ 8) rfl rfl rfl rfl) rfl rfl ?_
 refine lm rfl rfl rfl rfl rfl ?_
 refine lm rfl rfl rfl rfl rfl ?_
 refine lo rfl (pr_ixs1 (j := 5) (src_none (src_rd 0 rfl)) sd Try.underlying23 kr rfl rfl rfl) rfl rfl ?_
 refine lq rfl (ld_src (m := 5) (src_rd 0 rfl) (get8 sd) Try.underlying5 rfl rfl rfl) rfl rfl ?_
 refine lo rfl (pr_cv (cv8_64 _) Try.underlying5 Try.underlying30 rfl rfl) rfl rfl ?_
 refine lo rfl (pr_or (ib_or64 _ _) rfl rfl rfl) rfl rfl ?_
 refine la rfl rfl rfl rfl rfl ?_
 refine L_nil ?_
 refine T_reg hF rfl ?_
 refine lm rfl rfl rfl rfl rfl ?_
 refine lo rfl ((pr_as (pr_sub (ns_i64 (a := 5) (b := 1) sd sd) rfl rfl rfl) (show Value.int .i64 ((5 - 1 : Nat) : Int) = .int .i64 ((4 : Nat) : Int) from rfl))) rfl rfl ?_
 refine la rfl rfl rfl rfl rfl ?_
 refine L_nil ?_
 refine T_round ?_
 refine T_seq ?_
 refine Tsr hF rfl ?_
 refine lm rfl rfl rfl rfl rfl ?_
 refine lo rfl (pr_cmp (bo := .geq) (nc_le (a := 0) (b := 4)) rfl rfl rfl rfl) rfl rfl ?_
 refine L_nil ?_
 refine T_cond_t rfl ?_
 refine T_skip ?_
 refine T_seq ?_
 refine T_block ?_
 refine T_reg hF rfl ?_
 refine lm rfl rfl rfl rfl rfl ?_
 refine lo rfl (pr_shift (sh_shl64 ((((((0#64 <<< 8) ||| ((ath b 7).setWidth 64)) <<< 8) ||| ((ath b 6).setWidth 64)) <<< 8) ||| ((ath b 5).setWidth 64)) _ 8) rfl rfl rfl rfl) rfl rfl ?_
 refine lm rfl rfl rfl rfl rfl ?_
 refine lm rfl rfl rfl rfl rfl ?_
 refine lo rfl (pr_ixs1 (j := 4) (src_none (src_rd 0 rfl)) sd Try.underlying23 kr rfl rfl rfl) rfl rfl ?_
 refine lq rfl (ld_src (m := 4) (src_rd 0 rfl) (get8 sd) Try.underlying5 rfl rfl rfl) rfl rfl ?_
 refine lo rfl (pr_cv (cv8_64 _) Try.underlying5 Try.underlying30 rfl rfl) rfl rfl ?_
 refine lo rfl (pr_or (ib_or64 _ _) rfl rfl rfl) rfl rfl ?_
 refine la rfl rfl rfl rfl rfl ?_
 refine L_nil ?_
 refine T_reg hF rfl ?_
 refine lm rfl rfl rfl rfl rfl ?_
 refine lo rfl ((pr_as (pr_sub (ns_i64 (a := 4) (b := 1) sd sd) rfl rfl rfl) (show Value.int .i64 ((4 - 1 : Nat) : Int) = .int .i64 ((3 : Nat) : Int) from rfl))) rfl rfl ?_
 refine la rfl rfl rfl rfl rfl ?_
 refine L_nil ?_
 refine T_re [(0, (.slice A n c)), (3, (b64 ((((((((0#64 <<< 8) ||| ((ath b 7).setWidth 64)) <<< 8) ||| ((ath b 6).setWidth 64)) <<< 8) ||| ((ath b 5).setWidth 64)) <<< 8) ||| ((ath b 4).setWidth 64)))), (4, (.int .i64 ((3 : Nat) : Int)))] (sc rfl (sc rfl (sc rfl sn))) ?_
 refine T_he [0] [.rd A 1 n c (b.map b8)] ⟨by decide, rfl⟩ ?_
 refine T_round ?_
 refine T_seq ?_
 refine Tsr hF rfl ?_
 refine lm rfl rfl rfl rfl rfl ?_
 refine lo rfl (pr_cmp (bo := .geq) (nc_le (a := 0) (b := 3)) rfl rfl rfl rfl) rfl rfl ?_
 refine L_nil ?_
 refine T_cond_t rfl ?_
 refine T_skip ?_
 refine T_seq ?_
 refine T_block ?_
 refine T_reg hF rfl ?_
 refine lm rfl rfl rfl rfl rfl ?_
 refine lo rfl (pr_shift (sh_shl64 ((((((((0#64 <<< 8) ||| ((ath b 7).setWidth 64)) <<< 8) ||| ((ath b 6).setWidth 64)) <<< 8) ||| ((ath b 5).setWidth 64)) <<< 8) ||| ((ath b 4).setWidth 64)) _ 8) rfl rfl rfl rfl) rfl rfl ?_
 refine lm rfl rfl rfl rfl rfl ?_
 refine lm rfl rfl rfl rfl rfl ?_
 refine lo rfl (pr_ixs1 (j := 3) (src_none (src_rd 0 rfl)) sd Try.underlying23 kr rfl rfl rfl) rfl rfl ?_
 refine lq rfl (ld_src (m := 3) (src_rd 0 rfl) (get8 sd) Try.underlying5 rfl rfl rfl) rfl rfl ?_
 refine lo rfl (pr_cv (cv8_64 _) Try.underlying5 Try.underlying30 rfl rfl) rfl rfl ?_
 refine lo rfl (pr_or (ib_or64 _ _) rfl rfl rfl) rfl rfl ?_
 refine la rfl rfl rfl rfl rfl ?_
 refine L_nil ?_
 refine T_reg hF rfl ?_
 refine lm rfl rfl rfl rfl rfl ?_
 refine lo rfl ((pr_as (pr_sub (ns_i64 (a := 3) (b := 1) sd sd) rfl rfl rfl) (show Value.int .i64 ((3 - 1 : Nat) : Int) = .int .i64 ((2 : Nat) : Int) from rfl))) rfl rfl ?_
 refine la rfl rfl rfl rfl rfl ?_
 refine L_nil ?_
 refine T_round ?_
 refine T_seq ?_
 refine Tsr hF rfl ?_
 refine lm rfl rfl rfl rfl rfl ?_
 refine lo rfl (pr_cmp (bo := .geq) (nc_le (a := 0) (b := 2)) rfl rfl rfl rfl) rfl rfl ?_
 refine L_nil ?_
 refine T_cond_t rfl ?_
 refine T_skip ?_
 refine T_seq ?_
 refine T_block ?_
 refine T_reg hF rfl ?_
 refine lm rfl rfl rfl rfl rfl ?_
 refine lo rfl (pr_shift (sh_shl64 ((((((((((0#64 <<< 8) ||| ((ath b 7).setWidth 64)) <<< 8) ||| ((ath b 6).setWidth 64)) <<< 8) ||| ((ath b 5).setWidth 64)) <<< 8) ||| ((ath b 4).setWidth 64)) <<< 8) ||| ((ath b 3).setWidth 64)) _ 8) rfl rfl rfl rfl) rfl rfl ?_
 refine lm rfl rfl rfl rfl rfl ?_
 refine lm rfl rfl rfl rfl rfl ?_
 refine lo rfl (pr_ixs1 (j := 2) (src_none (src_rd 0 rfl)) sd Try.underlying23 kr rfl rfl rfl) rfl rfl ?_
 refine lq rfl (ld_src (m := 2) (src_rd 0 rfl) (get8 sd) Try.underlying5 rfl rfl rfl) rfl rfl ?_
 refine lo rfl (pr_cv (cv8_64 _) Try.underlying5 Try.underlying30 rfl rfl) rfl rfl ?_
 refine lo rfl (pr_or (ib_or64 _ _) rfl rfl rfl) rfl rfl ?_
 refine la rfl rfl rfl rfl rfl ?_
 refine L_nil ?_
 refine T_reg hF rfl ?_
 refine lm rfl rfl rfl rfl rfl ?_
 refine lo rfl ((pr_as (pr_sub (ns_i64 (a := 2) (b := 1) sd sd) rfl rfl rfl) (show Value.int .i64 ((2 - 1 : Nat) : Int) = .int .i64 ((1 : Nat) : Int) from rfl))) rfl rfl ?_
 refine la rfl rfl rfl rfl rfl ?_
 refine L_nil ?_
 refine T_round ?_
 refine T_seq ?_
 refine Tsr hF rfl ?_
 refine lm rfl rfl rfl rfl rfl ?_
 refine lo rfl (pr_cmp (bo := .geq) (nc_le (a := 0) (b := 1)) rfl rfl rfl rfl) rfl rfl ?_
 refine L_nil ?_
 refine T_cond_t rfl ?_
 refine T_skip ?_
 refine T_seq ?_
 refine T_block ?_
 refine T_reg hF rfl ?_
 refine lm rfl rfl rfl rfl rfl ?_
 refine lo rfl (pr_shift (sh_shl64 ((((((((((((0#64 <<< 8) ||| ((ath b 7).setWidth 64)) <<< 8) ||| ((ath b 6).setWidth 64)) <<< 8) ||| ((ath b 5).setWidth 64)) <<< 8) ||| ((ath b 4).setWidth 64)) <<< 8) ||| ((ath b 3).setWidth 64)) <<< 8) ||| ((ath b 2).setWidth 64)) _ 8) rfl rfl rfl rfl) rfl rfl ?_
 refine lm rfl rfl rfl rfl rfl ?_
 refine lm rfl rfl rfl rfl rfl ?_
 refine lo rfl (pr_ixs1 (j := 1) (src_none (src_rd 0 rfl)) sd Try.underlying23 kr rfl rfl rfl) rfl rfl ?_
 refine lq rfl (ld_src (m := 1) (src_rd 0 rfl) (get8 sd) Try.underlying5 rfl rfl rfl) rfl rfl ?_
 refine lo rfl (pr_cv (cv8_64 _) Try.underlying5 Try.underlying30 rfl rfl) rfl rfl ?_
 refine lo rfl (pr_or (ib_or64 _ _) rfl rfl rfl) rfl rfl ?_
 refine la rfl rfl rfl rfl rfl ?_
 refine L_nil ?_
 refine T_reg hF rfl ?_
 refine lm rfl rfl rfl rfl rfl ?_
 refine lo rfl ((pr_as (pr_sub (ns_i64 (a := 1) (b := 1) sd sd) rfl rfl rfl) (show Value.int .i64 ((1 - 1 : Nat) : Int) = .int .i64 ((0 : Nat) : Int) from rfl))) rfl rfl ?_
 refine la rfl rfl rfl rfl rfl ?_
 refine L_nil ?_
 refine T_round ?_
 refine T_seq ?_
 refine Tsr hF rfl ?_
 refine lm rfl rfl rfl rfl rfl ?_
 refine lo rfl (pr_cmp (bo := .geq) (nc_le (a := 0) (b := 0)) rfl rfl rfl rfl) rfl rfl ?_
 refine L_nil ?_
 refine T_cond_t rfl ?_
 refine T_skip ?_
 refine T_seq ?_
 refine T_block ?_
 refine T_reg hF rfl ?_
 refine lm rfl rfl rfl rfl rfl ?_
 refine lo rfl (pr_shift (sh_shl64 ((((((((((((((0#64 <<< 8) ||| ((ath b 7).setWidth 64)) <<< 8) ||| ((ath b 6).setWidth 64)) <<< 8) ||| ((ath b 5).setWidth 64)) <<< 8) ||| ((ath b 4).setWidth 64)) <<< 8) ||| ((ath b 3).setWidth 64)) <<< 8) ||| ((ath b 2).setWidth 64)) <<< 8) ||| ((ath b 1).setWidth 64)) _ 8) rfl rfl rfl rfl) rfl rfl ?_
 refine lm rfl rfl rfl rfl rfl ?_
 refine lm rfl rfl rfl rfl rfl ?_
 refine lo rfl (pr_ixs1 (j := 0) (src_none (src_rd 0 rfl)) sd Try.underlying23 kr rfl rfl rfl) rfl rfl ?_
 refine lq rfl (ld_src (m := 0) (src_rd 0 rfl) (get8 sd) Try.underlying5 rfl rfl rfl) rfl rfl ?_
 refine lo rfl (pr_cv (cv8_64 _) Try.underlying5 Try.underlying30 rfl rfl) rfl rfl ?_
 refine lo rfl (pr_or (ib_or64 _ _) rfl rfl rfl) rfl rfl ?_
 refine la rfl rfl rfl rfl rfl ?_
 refine L_nil ?_
 refine T_reg hF rfl ?_
 refine lm rfl rfl rfl rfl rfl ?_
 refine lo rfl ((pr_as (pr_sub (zw_i64 (z := (((0 : Nat) : Int) - ((1 : Nat) : Int))) sd) rfl rfl rfl) (show Value.int .i64 (((0 : Nat) : Int) - ((1 : Nat) : Int)) = .int .i64 (-1) from rfl))) rfl rfl ?_
 refine la rfl rfl rfl rfl rfl ?_
 refine L_nil ?_
 refine T_round ?_
 refine T_seq ?_
 refine Tsr hF rfl ?_
 refine lm rfl rfl rfl rfl rfl ?_
 refine lo rfl (pr_cmp (bo := .geq) (k := .i64) (a := (-1)) (b := ((0 : Nat) : Int)) (c := decide (((0 : Nat) : Int) ≤ (-1))) rfl rfl rfl rfl rfl) rfl rfl ?_
 refine L_nil ?_
 refine T_cond_no (t := decide (((0 : Nat) : Int) ≤ (-1))) rfl (by decide) ?_
 refine T_exit rfl ?_
 refine Tsr hF rfl ?_
 refine lm rfl rfl rfl rfl rfl ?_
 refine la rfl rfl rfl rfl rfl ?_
 refine L_nil ?_
 refine T_ret ?_
 refine T_slot 2 _ (b64 (low b 8)) rfl (by rw [← num8 b]) ?_
 exact T_fin () (by first | trivial | omega | (simp; done)) (res1 rfl rfl) [] ⟨by decide, rfl⟩ rfl
end Go.Proofs.Ytlplpmkdebemnaa
namespace Go.Proofs.Ytlplpmkdebemnaa
set_option linter.unusedVariables false
set_option linter.unusedSimpArgs false
set_option linter.unnecessarySimpa false
set_option maxRecDepth 100000
open Go.RowKit Bv Fw

/-- 1 of true, else 0. -/
def bitw (d : Bool) : BitVec 64 := if d then 1#64 else 0#64
/-- A record's bytes. -/
def rpk (r : Rc) : List (BitVec 8) := if r.d then eights [1#64, 0#64, 0#64, 0#64] else eights [0#64, r.k, r.v, r.s]
theorem rpk_len (r : Rc) : (rpk r).length = 32 := by unfold rpk; split <;> rw [eights_len] <;> rfl
theorem rpk_t {d : Bool} {k v s : BitVec 64} (h : d = true) : rpk ⟨d, k, v, s⟩ = eights [1#64, 0#64, 0#64, 0#64] := by subst h; rfl
theorem rpk_f {d : Bool} {k v s : BitVec 64} (h : d = false) : rpk ⟨d, k, v, s⟩ = eights [0#64, k, v, s] := by subst h; rfl

set_option maxHeartbeats 4000000 in
theorem all64_seq (xs : List (BitVec 64)) (A : Option Addr) (n : Nat) (c : Nat) (g1 : Nat) (hx : xs.length = n) (hn : n ≤ 1000000) : SeqC (Θ := Unit) Try.prog 73 [(.pointer (some ⟨g1, 0, none⟩))] [.rd (some ⟨g1, 0, none⟩) 1 1 1 [(.slice A n c)], .rd A 1 n c (xs.map b64)] n (fun k _ => [(.int .i64 ((k : Nat) : Int)), (b64 (ath xs k))]) (fun k _ => []) := by
 have hF : Wid Fence.wide := wid_wide
 refine enter_seq (c := _) Try.func73 rfl (by rw [Try.ntmps73]; rfl) rfl ?_
 intro l J Jx W O R hsJ hsX hy hend
 rw [Try.ntmps73]
 refine T_re [(0, (.func (.yield l) #[] #[])), (1, (.pointer (some ⟨g1, 0, none⟩)))] (sc rfl (sc rfl sn)) ?_
 refine T_he [0, 1, 2] [.inv W.heap.size O R (J 0 O R), .rd (some ⟨g1, 0, none⟩) 1 1 1 [(.slice A n c)], .rd A 1 n c (xs.map b64)] ⟨by decide, rfl⟩ ?_
 refine Tsr hF rfl ?_
 refine lq rfl (ld_rdb (src_rd 1 rfl) rfl Try.underlying69 rfl rfl rfl) rfl rfl ?_
 refine lo rfl (pr_len_sl Try.underlying69 rfl rfl) rfl rfl ?_
 refine lm rfl rfl rfl rfl rfl ?_
 refine L_nil ?_
 refine T_block ?_
 refine T_loop (T := Nat × List Nat × List Nat) (fun ⟨k, O, R⟩ => k ≤ n) (fun ⟨k, O, R⟩ => [(0, (.func (.yield l) #[] #[])), (5, (.slice A n c)), (6, (.int .i64 ((n : Nat) : Int))), (7, (.int .i64 ((k : Nat) : Int)))]) (fun ⟨k, O, R⟩ => [.inv W.heap.size O R (J k O R), .rd (some ⟨g1, 0, none⟩) 1 1 1 [(.slice A n c)], .rd A 1 n c (xs.map b64)]) (fun ⟨k, O, R⟩ => n - k) (0, O, R) (by first | trivial | ((try dsimp only); first | omega | (refine ⟨?_, ?_⟩ <;> omega) | (refine ⟨?_, ?_, ?_⟩ <;> omega) | (simp; done) | (simp; omega))) (sc rfl (sc rfl (sc rfl (sc rfl sn)))) [0, 1, 2] ⟨by decide, rfl⟩ ?_
 rintro ⟨k, O, R⟩ hp
 have hp : k ≤ n := hp
 refine T_re [(0, (.func (.yield l) #[] #[])), (5, (.slice A n c)), (6, (.int .i64 ((n : Nat) : Int))), (7, (.int .i64 ((k : Nat) : Int)))] (sc rfl (sc rfl (sc rfl (sc rfl sn)))) ?_
 refine T_he [0, 1, 2] [.inv W.heap.size O R (J k O R), .rd (some ⟨g1, 0, none⟩) 1 1 1 [(.slice A n c)], .rd A 1 n c (xs.map b64)] ⟨by decide, rfl⟩ ?_
 refine Tsr hF rfl ?_
 refine lo rfl (pr_cmp (bo := .lss) (nc_lt (a := k) (b := n)) rfl rfl rfl rfl) rfl rfl ?_
 refine L_nil ?_
 refine T_seq ?_
 refine T_cond (decide (k < n)) rfl (fun hc_1 => ?_) (fun hc_1 => ?_)
 ·
  have hc_1 := of_decide_eq_true hc_1
  refine T_skip ?_
  refine T_seq ?_
  refine T_block ?_
  refine Tsr hF rfl ?_
  refine lm rfl rfl rfl rfl rfl ?_
  refine lo rfl (pr_ixs1 (j := k) (src_none (src_rd 2 rfl)) sd Try.underlying69 kr rfl rfl rfl) rfl rfl ?_
  refine lq rfl (ld_src (m := k) (src_rd 2 rfl) (get64 sd) Try.underlying30 rfl rfl rfl) rfl rfl ?_
  refine la rfl rfl rfl rfl rfl ?_
  refine la rfl rfl rfl rfl rfl ?_
  refine L_nil ?_
  refine T_seq ?_
  refine T_regI ?_
  refine LI_opP hF rfl rfl (op_pr (pr_move rfl rfl) rfl rfl ?_)
  refine LI_opP hF rfl rfl (op_pr (pr_move rfl rfl) rfl rfl ?_)
  refine LI_opP hF rfl rfl (op_pr (pr_move rfl rfl) rfl rfl ?_)
  refine LI_op rfl (op_yield (k := k) () hy sd hsJ hsX 0 rfl [] rfl rfl rfl rfl rfl rfl rfl rfl rfl (fun _ => trivial) (fun O2 R3 => ?_) (fun O4 R5 => ?_))
  ·
   refine LI_opP hF rfl rfl (op_pr (pr_un (v := .bool false) rfl rfl rfl) rfl rfl ?_)
   refine LI_nil ?_
   refine T_cond_f rfl ?_
   refine T_skip ?_
   refine T_reg hF rfl ?_
   refine lo rfl (pr_add (na_i64 (a := k) (b := 1) sd) rfl rfl rfl) rfl rfl ?_
   refine lm rfl rfl rfl rfl rfl ?_
   refine L_nil ?_
   exact T_again (k + 1, O2, R3) (by first | trivial | ((try dsimp only); first | omega | (refine ⟨?_, ?_⟩ <;> omega) | (refine ⟨?_, ?_, ?_⟩ <;> omega) | (simp; done) | (simp; omega))) (by first | trivial | ((try dsimp only); first | omega | (refine ⟨?_, ?_⟩ <;> omega) | (refine ⟨?_, ?_, ?_⟩ <;> omega) | (simp; done) | (simp; omega))) (sc rfl (sc rfl (sc rfl (sc rfl sn)))) [0, 1, 2] ⟨by decide, rfl⟩
  ·
   refine LI_opP hF rfl rfl (op_pr (pr_un (v := .bool true) rfl rfl rfl) rfl rfl ?_)
   refine LI_nil ?_
   refine T_cond_t rfl ?_
   refine T_ret ?_
   exact T_finX rfl rfl 0 rfl
 ·
  have hc_1 := of_decide_eq_false hc_1
  refine T_exit rfl ?_
  obtain rfl : k = n := by omega
  exact T_finJ rfl rfl 0 rfl
set_option maxHeartbeats 4000000 in
theorem all64_f (A : Option Addr) (n : Nat) (c : Nat) (w : World) (hO : HOK [] w)  : Calls Try.prog 58 [(.slice A n c)].toArray w (Ret (T := Nat) [] w (fun g1 => True) (fun g1 => (.func (.func 73) #[] [(.pointer (some ⟨g1, 0, none⟩))].toArray)) (fun g1 => [.old (some ⟨g1, 0, none⟩) 1 1 1 [(.slice A n c)]])) := by
 have hF : Wid Fence.wide := wid_wide
 refine enter (c := _) Try.func58 rfl [] _ [] (by rw [Try.ntmps58]; rfl) (own_rds hO rfl) ?_
 rw [Try.ntmps58]
 refine T_re [(0, (.slice A n c))] (sc rfl sn) ?_
 refine T_he [] [] ⟨by decide, rfl⟩ ?_
 refine Tsr hF rfl ?_
 refine L_op rfl (op_box (zs := [(.slice A n c)]) rfl rfl rfl rfl rfl (fun g1 => ?_))
 refine la rfl rfl rfl rfl rfl ?_
 refine L_nil ?_
 refine Tsr hF rfl ?_
 refine lo rfl (pr_mkfn (us := []) (vs := [(.pointer (some ⟨g1, 0, none⟩))]) rfl rfl rfl) rfl rfl ?_
 refine la rfl rfl rfl rfl rfl ?_
 refine L_nil ?_
 refine T_ret ?_
 refine T_oldb 0 (zs := [(.slice A n c)]) 0 1 1 1 rfl rfl rfl sd sd ?_
 exact T_fin g1 (by first | trivial | omega | (simp; done)) (res1 rfl rfl) [0] ⟨by decide, rfl⟩ rfl
set_option maxHeartbeats 4000000 in
theorem bit_f (d : Bool) (w : World) (hO : HOK [] w)  : Calls Try.prog 59 [(.bool d)].toArray w (Ret (T := Unit) [] w (fun _ => True) (fun _ => (b64 (bitw d))) (fun _ => [])) := by
 have hF : Wid Fence.wide := wid_wide
 refine enter (c := _) Try.func59 rfl [] _ [] (by rw [Try.ntmps59]; rfl) (own_rds hO rfl) ?_
 rw [Try.ntmps59]
 refine T_re [(0, (.bool d))] (sc rfl sn) ?_
 refine T_he [] [] ⟨by decide, rfl⟩ ?_
 refine Tsr hF rfl ?_
 refine la rfl rfl rfl rfl rfl ?_
 refine L_nil ?_
 refine T_seq ?_
 refine Tsr hF rfl ?_
 refine lm rfl rfl rfl rfl rfl ?_
 refine L_nil ?_
 refine T_cond d rfl (fun hc_1 => ?_) (fun hc_1 => ?_)
 ·
  refine Tsr hF rfl ?_
  refine la rfl rfl rfl rfl rfl ?_
  refine L_nil ?_
  refine T_ret ?_
  refine T_slot 2 (b64 (1#64)) (b64 (bitw d)) rfl (by first | (rw [show d = true by assumption]; rfl) | (rw [show d = false by assumption]; rfl)) ?_
  exact T_fin () (by first | trivial | omega | (simp; done)) (res1 rfl rfl) [] ⟨by decide, rfl⟩ rfl
 ·
  refine T_skip ?_
  refine Tsr hF rfl ?_
  refine la rfl rfl rfl rfl rfl ?_
  refine L_nil ?_
  refine T_ret ?_
  refine T_slot 2 (b64 (0#64)) (b64 (bitw d)) rfl (by first | (rw [show d = true by assumption]; rfl) | (rw [show d = false by assumption]; rfl)) ?_
  exact T_fin () (by first | trivial | omega | (simp; done)) (res1 rfl rfl) [] ⟨by decide, rfl⟩ rfl
set_option maxHeartbeats 4000000 in
theorem dead_f  (w : World) (hO : HOK [] w)  : Calls Try.prog 36 [].toArray w (Ret (T := Unit) [] w (fun _ => True) (fun _ => (.agg [(.bool true), (.int .i64 ((0 : Nat) : Int)), (.int .i64 ((0 : Nat) : Int)), (.int .i64 ((0 : Nat) : Int))].toArray)) (fun _ => [])) := by
 have hF : Wid Fence.wide := wid_wide
 refine enter (c := _) Try.func36 rfl [] _ [] (by rw [Try.ntmps36]; rfl) (own_rds hO rfl) ?_
 rw [Try.ntmps36]
 refine T_re [] sn ?_
 refine T_he [] [] ⟨by decide, rfl⟩ ?_
 refine Tsr hF rfl ?_
 refine L_op rfl (op_alloc (z := .agg [(.bool false), (.int .i64 ((0 : Nat) : Int)), (.int .i64 ((0 : Nat) : Int)), (.int .i64 ((0 : Nat) : Int))].toArray) (zs := [(.bool false), (.int .i64 ((0 : Nat) : Int)), (.int .i64 ((0 : Nat) : Int)), (.int .i64 ((0 : Nat) : Int))]) kr rfl rfl rfl rfl (fun g1 => ?_))
 refine L_nil ?_
 refine Tsr hF rfl ?_
 refine lo rfl (pr_build (qs := [(0, (.bool true))]) (v := .agg [(.bool true), (.int .i64 ((0 : Nat) : Int)), (.int .i64 ((0 : Nat) : Int)), (.int .i64 ((0 : Nat) : Int))].toArray) (fun _ => by kernel_rfl) rfl rfl) rfl rfl ?_
 refine L_op rfl (op_sto (n := 4) (vs := [(.bool true), (.int .i64 ((0 : Nat) : Int)), (.int .i64 ((0 : Nat) : Int)), (.int .i64 ((0 : Nat) : Int))]) 0 rfl rfl kr (by simp [Value.oneCell']) kr kr rfl rfl rfl rfl ?_)
 refine L_nil ?_
 refine T_ret ?_
 exact T_fin () (by first | trivial | omega | (simp; done)) (resb 0 rfl rfl rfl Try.underlying43 rfl kr) [] ⟨by decide, rfl⟩ rfl
set_option maxHeartbeats 4000000 in
theorem rdead_f  (w : World) (hO : HOK [] w)  : Calls Try.prog 42 [].toArray w (Ret (T := Unit) [] w (fun _ => True) (fun _ => (.agg [(.bool true), (.int .i64 ((0 : Nat) : Int)), (.int .i64 ((0 : Nat) : Int)), (.int .i64 ((0 : Nat) : Int))].toArray)) (fun _ => [])) := by
 have hF : Wid Fence.wide := wid_wide
 refine enter (c := _) Try.func42 rfl [] _ [] (by rw [Try.ntmps42]; rfl) (own_rds hO rfl) ?_
 rw [Try.ntmps42]
 refine T_re [] sn ?_
 refine T_he [] [] ⟨by decide, rfl⟩ ?_
 refine Tsr hF rfl ?_
 refine L_op rfl (op_alloc (z := .agg [(.bool false), (.int .i64 ((0 : Nat) : Int)), (.int .i64 ((0 : Nat) : Int)), (.int .i64 ((0 : Nat) : Int))].toArray) (zs := [(.bool false), (.int .i64 ((0 : Nat) : Int)), (.int .i64 ((0 : Nat) : Int)), (.int .i64 ((0 : Nat) : Int))]) kr rfl rfl rfl rfl (fun g1 => ?_))
 refine L_nil ?_
 refine Tsr hF rfl ?_
 refine lo rfl (pr_build (qs := [(0, (.bool true))]) (v := .agg [(.bool true), (.int .i64 ((0 : Nat) : Int)), (.int .i64 ((0 : Nat) : Int)), (.int .i64 ((0 : Nat) : Int))].toArray) (fun _ => by kernel_rfl) rfl rfl) rfl rfl ?_
 refine L_op rfl (op_sto (n := 4) (vs := [(.bool true), (.int .i64 ((0 : Nat) : Int)), (.int .i64 ((0 : Nat) : Int)), (.int .i64 ((0 : Nat) : Int))]) 0 rfl rfl kr (by simp [Value.oneCell']) kr kr rfl rfl rfl rfl ?_)
 refine L_nil ?_
 refine T_ret ?_
 exact T_fin () (by first | trivial | omega | (simp; done)) (resb 0 rfl rfl rfl Try.underlying43 rfl kr) [] ⟨by decide, rfl⟩ rfl
set_option maxHeartbeats 4000000 in
theorem rpack_f (d : Bool) (vk : BitVec 64) (vv : BitVec 64) (vs : BitVec 64) (w : World) (hO : HOK [] w)  : Calls Try.prog 35 [(.agg [(.bool d), (.int .i64 (i64 vk)), (.int .i64 (i64 vv)), (.int .i64 (i64 vs))].toArray)].toArray w (Ret (T := Unit) [] w (fun _ => True) (fun _ => (.agg ((rpk (Rc.mk d vk vv vs)).map b8).toArray)) (fun _ => [])) := by
 have hrl := rpk_len (Rc.mk d vk vv vs)
 have hF : Wid Fence.wide := wid_wide
 refine enter_m (c := _) Try.func35 rfl [] _ [] (by rw [Try.ntmps35]; rfl) (own_rds hO rfl) ?_
 rw [Try.ntmps35]
 refine T_re [(0, (.agg [(.bool d), (.int .i64 (i64 vk)), (.int .i64 (i64 vv)), (.int .i64 (i64 vs))].toArray))] (sc rfl sn) ?_
 refine T_he [] [] ⟨by decide, rfl⟩ ?_
 refine Tsr hF rfl ?_
 refine L_op rfl (op_box (zs := [(.bool d), (.int .i64 (i64 vk)), (.int .i64 (i64 vv)), (.int .i64 (i64 vs))]) rfl rfl rfl rfl rfl (fun g1 => ?_))
 refine L_op rfl (op_alloc (z := .agg ((List.replicate 32 0#8).map b8).toArray) (zs := ((List.replicate 32 0#8).map b8)) kr rfl rfl rfl rfl (fun g2 => ?_))
 refine L_nil ?_
 refine T_seq ?_
 refine Tsr hF rfl ?_
 refine lo rfl (pr_fa (m := 0) (m' := 0) (z := 0) (by rfl) Try.underlying43 rfl kr rfl rfl) rfl rfl ?_
 refine lq rfl (ld_blk 1 rfl rfl Try.underlying4 rfl rfl rfl) rfl rfl ?_
 refine L_nil ?_
 refine T_cond d rfl (fun hc_3 => ?_) (fun hc_3 => ?_)
 ·
  refine T_reg hF rfl ?_
  refine L_op rfl (op_cn (fun w hw => dead_f  w (hok_nil w) ) (enters_of Try.func36 kr rfl) rfl rfl rfl rfl rfl (fun t4 q5 => ?_))
  refine L_op rfl (op_sto (n := 4) (vs := [(.bool true), (.int .i64 ((0 : Nat) : Int)), (.int .i64 ((0 : Nat) : Int)), (.int .i64 ((0 : Nat) : Int))]) 1 rfl rfl kr (by simp [Value.oneCell']) kr kr rfl rfl rfl rfl ?_)
  refine L_nil ?_
  refine Tsr hF rfl ?_
  refine L_op rfl (op_alloc (z := (.slice none 0 0)) (zs := [(.slice none 0 0)]) kr rfl rfl rfl rfl (fun g6 => ?_))
  refine L_nil ?_
  refine T_seq ?_
  refine T_seq ?_
  refine T_regD [.blk g6 23 [(.slice none 0 0)], .blk g1 43 [(.bool true), (.int .i64 ((0 : Nat) : Int)), (.int .i64 ((0 : Nat) : Int)), (.int .i64 ((0 : Nat) : Int))], .blk g2 50 ((List.replicate 32 0#8).map b8)] 14 14 #[false, false, false, false, false, false, false, false, false, false, false, false, false, false] hF kr kr ?_
  refine D_pure (i := 0) [0, 1, 2] rfl kr rfl (pr_fa (m := 0) (m' := 0) (z := 0) (by rfl) Try.underlying43 rfl kr rfl rfl) (.inr rfl) rfl rfl ?_
  refine D_pure (i := 3) [0, 1, 2] rfl kr rfl (pr_fa (m := 0) (m' := 1) (z := 0) (by rfl) Try.underlying43 rfl kr rfl rfl) (.inr rfl) rfl rfl ?_
  refine D_pure (i := 6) [0, 1, 2] rfl kr rfl (pr_fa (m := 0) (m' := 2) (z := 0) (by rfl) Try.underlying43 rfl kr rfl rfl) (.inr rfl) rfl rfl ?_
  refine D_pure (i := 9) [0, 1, 2] rfl kr rfl (pr_fa (m := 0) (m' := 3) (z := 0) (by rfl) Try.underlying43 rfl kr rfl rfl) (.inr rfl) rfl rfl ?_
  refine D_take (i := 1) [0, 1, 2] rfl kr rfl (ld_blk 1 rfl rfl Try.underlying4 rfl rfl rfl) rfl rfl rfl ?_
  refine D_take (i := 4) [0, 1, 2] rfl kr rfl (ld_blk 1 rfl rfl Try.underlying2 rfl rfl rfl) rfl rfl rfl ?_
  refine D_pure (i := 5) [0, 1, 2] rfl kr rfl (pr_cv (ni_u64 (a := 0) sd) Try.underlying2 Try.underlying30 rfl rfl) (.inr rfl) rfl rfl ?_
  refine D_take (i := 7) [0, 1, 2] rfl kr rfl (ld_blk 1 rfl rfl Try.underlying2 rfl rfl rfl) rfl rfl rfl ?_
  refine D_pure (i := 8) [0, 1, 2] rfl kr rfl (pr_cv (ni_u64 (a := 0) sd) Try.underlying2 Try.underlying30 rfl rfl) (.inr rfl) rfl rfl ?_
  refine D_take (i := 10) [0, 1, 2] rfl kr rfl (ld_blk 1 rfl rfl Try.underlying2 rfl rfl rfl) rfl rfl rfl ?_
  refine D_pure (i := 11) [0, 1, 2] rfl kr rfl (pr_cv (ni_u64 (a := 0) sd) Try.underlying2 Try.underlying30 rfl rfl) (.inr rfl) rfl rfl ?_
  refine D_one 2 _ rfl kr rfl (op_cn (fun w hw => bit_f true w (hok_nil w) ) (enters_of Try.func59 kr rfl) rfl rfl rfl rfl rfl (fun t7 q8 => ?_))
  refine D_on [0, 1, 2] rfl ?_
  refine D_one 12 _ rfl kr rfl (op_bslice (e := 30) (zs := [(b64 (bitw true)), (.int .u64 ((0 : Nat) : Int)), (.int .u64 ((0 : Nat) : Int)), (.int .u64 ((0 : Nat) : Int))]) (qs := [(0, (b64 (bitw true))), (1, (.int .u64 ((0 : Nat) : Int))), (2, (.int .u64 ((0 : Nat) : Int))), (3, (.int .u64 ((0 : Nat) : Int)))]) (fun _ => by kernel_rfl) rfl rfl rfl rfl (fun g9 => ?_))
  refine D_on [1, 2, 3] rfl ?_
  refine D_one 13 _ rfl kr rfl (op_cn (fun w hw => all64_f (some ⟨g9, 0, none⟩) 4 4 w (hok_nil w) ) (enters_of Try.func58 kr rfl) rfl rfl rfl rfl rfl (fun t10 q11 => ?_))
  obtain ⟨g1_12, eg1_12⟩ : ∃ x, x = t10 := ⟨_, rfl⟩
  subst eg1_12
  refine D_on [2, 3, 4] rfl ?_
  refine D_done kr ?_
  refine T_block ?_
  refine T_tord 0 rfl ?_
  refine T_oldb 1 (zs := ([(bitw true), 0#64, 0#64, 0#64].map b64)) 0 1 4 4 rfl sd (by first | rfl | (rw [List.drop_zero, List.take_of_length_le (by first | (simp; omega) | (rw [rcs_len]; simp))])) sd sd ?_
  refine T_tord 0 rfl ?_
  refine T_nilrow 5 1 ?_
  refine T_as 0 _ (.row (.slice none (8 * 0) 0) 5 1 (8 * 0) ((eights (List.take 0 [(bitw true), 0#64, 0#64, 0#64])).map b8)) rfl (by first | rfl | simp | (congr 1; simp)) ?_
  refine T_as 3 _ (.blk g6 23 [(.slice none (8 * 0) 0)]) rfl (by first | rfl | simp | (congr 1; simp)) ?_
  refine T_range (Θ := Unit) (T := Option Addr × Nat) (Tx := Unit) (cap := [(.pointer (some ⟨g1_12, 0, none⟩))]) (ps := [23, 24]) (all64_seq [(bitw true), 0#64, 0#64, 0#64] (some ⟨g9, 0, none⟩) 4 4 g1_12 sd sd) rfl (enters_of Try.func73 kr rfl) (fun k ⟨A1, c1⟩ => k ≤ 4) (fun k ⟨A1, c1⟩ => [.row (.slice A1 (8 * k) c1) 5 1 (8 * k) ((eights (List.take k [(bitw true), 0#64, 0#64, 0#64])).map b8), .rd (some ⟨g1_12, 0, none⟩) 1 1 1 [(.slice (some ⟨g9, 0, none⟩) 4 4)], .blk g6 23 [(.slice A1 (8 * k) c1)], .blk g1 43 [(.bool true), (.int .i64 ((0 : Nat) : Int)), (.int .i64 ((0 : Nat) : Int)), (.int .i64 ((0 : Nat) : Int))], .blk g2 50 ((List.replicate 32 0#8).map b8)]) (fun _ => False) (fun _ => []) 0 (none, 0) (by omega) [1, 3, 0, 4, 5] ⟨by decide, rfl⟩ [3, 2] rfl rfl (fun _ _ => rfl) (fun _ => rfl) (fun _ _ => rfl) (fun _ _ => rfl) rfl (fun _ => trivial) ?_ ?_ ?_
  ·
   intro C2 w2 lo2 rs2 l D m k t th rc hrec hk hp
   obtain ⟨A1, c1⟩ := t
   have hp : k ≤ 4 := hp
   have hk : k < 4 := hk
   have hF : Wid (Fence.wide.inRound l) := wid_round l
   refine T_re [(3, (.pointer (some ⟨g6, 0, none⟩))), (23, (.int .i64 ((k : Nat) : Int))), (24, (b64 (ath [(bitw true), 0#64, 0#64, 0#64] k)))] (sc rfl (sc rfl (sc rfl sn))) ?_
   refine T_he [0, 1, 2, 3, 4, 5, 6] [.obj l (.loop rc), .obj D (.deferred (some [])), .row (.slice A1 (8 * k) c1) 5 1 (8 * k) ((eights (List.take k [(bitw true), 0#64, 0#64, 0#64])).map b8), .rd (some ⟨g1_12, 0, none⟩) 1 1 1 [(.slice (some ⟨g9, 0, none⟩) 4 4)], .blk g6 23 [(.slice A1 (8 * k) c1)], .blk g1 43 [(.bool true), (.int .i64 ((0 : Nat) : Int)), (.int .i64 ((0 : Nat) : Int)), (.int .i64 ((0 : Nat) : Int))], .blk g2 50 ((List.replicate 32 0#8).map b8)] ⟨by decide, rfl⟩ ?_
   refine T_reg hF rfl ?_
   refine la rfl rfl rfl rfl rfl ?_
   refine L_nil ?_
   refine T_begun 0 rfl hrec ?_
   refine T_block ?_
   refine T_reg hF rfl ?_
   refine lq rfl (ld_blk 4 rfl rfl Try.underlying23 rfl rfl rfl) rfl rfl ?_
   refine lm rfl rfl rfl rfl rfl ?_
   refine L_op rfl (op_c1 2 rfl (fun w hw => putLow_f (eights (List.take k [(bitw true), 0#64, 0#64, 0#64])) (ath [(bitw true), 0#64, 0#64, 0#64] k) 8 A1 (8 * k) c1 w (hw _ (List.mem_of_getElem? (i := 2) rfl)) sd sd) (enters_of Try.func60 kr rfl) rfl rfl rfl rfl rfl (fun t13 q14 => ?_))
   obtain ⟨B15, d16⟩ := t13
   refine L_op rfl (op_store (vs := [(.slice B15 ((8 * k) + 8) d16)]) (cs' := [(.slice B15 ((8 * k) + 8) d16)]) 4 rfl rfl kr (one_one rfl) (by first | decide | simp | exact Nat.le_refl _) rfl rfl rfl rfl rfl ?_)
   refine L_nil ?_
   refine T_as 1 _ (.row (.slice B15 (8 * (k + 1)) d16) 5 1 (8 * (k + 1)) ((eights (List.take (k + 1) [(bitw true), 0#64, 0#64, 0#64])).map b8)) rfl (by rw [eights_take _ _ (by simp; omega)]; rfl) ?_
   refine T_as 1 _ (.blk g6 23 [(.slice B15 (8 * (k + 1)) d16)]) rfl (by congr 1) ?_
   exact T_on (B15, d16) (by omega) [2, 3, 1, 4, 0, 5, 6] ⟨by decide, rfl⟩
  ·
   intro D t hp
   obtain ⟨A1, c1⟩ := t
   have hp : 4 ≤ 4 := hp
   have hel : (eights (List.take 4 [(bitw true), 0#64, 0#64, 0#64])).length = 32 := by rw [eights_len]; rfl
   refine T_re [(2, (.pointer (some ⟨g2, 0, none⟩))), (3, (.pointer (some ⟨g6, 0, none⟩)))] (sc rfl (sc rfl sn)) ?_
   refine T_he [0, 1, 2, 3, 4, 5] [.obj D (.deferred (some [])), .row (.slice A1 (8 * 4) c1) 5 1 (8 * 4) ((eights (List.take 4 [(bitw true), 0#64, 0#64, 0#64])).map b8), .rd (some ⟨g1_12, 0, none⟩) 1 1 1 [(.slice (some ⟨g9, 0, none⟩) 4 4)], .blk g6 23 [(.slice A1 (8 * 4) c1)], .blk g1 43 [(.bool true), (.int .i64 ((0 : Nat) : Int)), (.int .i64 ((0 : Nat) : Int)), (.int .i64 ((0 : Nat) : Int))], .blk g2 50 ((List.replicate 32 0#8).map b8)] ⟨by decide, rfl⟩ ?_
   refine Tsr hF rfl ?_
   refine lq rfl (ld_blk 3 rfl rfl Try.underlying23 rfl rfl rfl) rfl rfl ?_
   refine lo rfl (pr_s2a sd Try.underlying50 rfl rfl) rfl rfl ?_
   refine lq rfl (ld_aggs (ds := ((eights (List.take 4 [(bitw true), 0#64, 0#64, 0#64])).map b8)) (src_row 1 rfl) (List.take_length) (by have h1 : (((eights (List.take 4 [(bitw true), 0#64, 0#64, 0#64])).map b8)).length = 32 := sd; omega) Try.underlying50 rfl (fwz (n := 32) kr sd) rfl rfl) rfl rfl ?_
   refine L_op rfl (op_sto (n := 32) (vs := ((eights (List.take 4 [(bitw true), 0#64, 0#64, 0#64])).map b8)) 5 rfl rfl kr (all8_one _) kr sd rfl rfl rfl rfl ?_)
   refine L_nil ?_
   refine T_ret ?_
   refine T_as 0 _ (.blk g2 50 ((rpk (Rc.mk d vk vv vs)).map b8)) rfl (by first | (rw [rpk_t (by assumption)]; rfl) | (rw [rpk_f (by assumption), show d = false by assumption]; rfl)) ?_
   exact T_finM 1 rfl () (by first | trivial | omega | (simp; done)) (resb 0 rfl rfl rfl Try.underlying50 rfl (fwz (n := 32) kr sd)) [] ⟨by decide, rfl⟩ rfl
  ·
   exact fun D t hq => hq.elim
 ·
  refine T_skip ?_
  refine Tsr hF rfl ?_
  refine L_op rfl (op_alloc (z := (.slice none 0 0)) (zs := [(.slice none 0 0)]) kr rfl rfl rfl rfl (fun g17 => ?_))
  refine L_nil ?_
  refine T_seq ?_
  refine T_seq ?_
  refine T_regD [.blk g17 23 [(.slice none 0 0)], .blk g2 50 ((List.replicate 32 0#8).map b8), .blk g1 43 [(.bool d), (.int .i64 (i64 vk)), (.int .i64 (i64 vv)), (.int .i64 (i64 vs))]] 14 14 #[false, false, false, false, false, false, false, false, false, false, false, false, false, false] hF kr kr ?_
  refine D_pure (i := 0) [0, 1, 2] rfl kr rfl (pr_fa (m := 0) (m' := 0) (z := 0) (by rfl) Try.underlying43 rfl kr rfl rfl) (.inr rfl) rfl rfl ?_
  refine D_pure (i := 3) [0, 1, 2] rfl kr rfl (pr_fa (m := 0) (m' := 1) (z := 0) (by rfl) Try.underlying43 rfl kr rfl rfl) (.inr rfl) rfl rfl ?_
  refine D_pure (i := 6) [0, 1, 2] rfl kr rfl (pr_fa (m := 0) (m' := 2) (z := 0) (by rfl) Try.underlying43 rfl kr rfl rfl) (.inr rfl) rfl rfl ?_
  refine D_pure (i := 9) [0, 1, 2] rfl kr rfl (pr_fa (m := 0) (m' := 3) (z := 0) (by rfl) Try.underlying43 rfl kr rfl rfl) (.inr rfl) rfl rfl ?_
  refine D_take (i := 1) [0, 1, 2] rfl kr rfl (ld_blk 2 rfl rfl Try.underlying4 rfl rfl rfl) rfl rfl rfl ?_
  refine D_take (i := 4) [0, 1, 2] rfl kr rfl (ld_blk 2 rfl rfl Try.underlying2 rfl rfl rfl) rfl rfl rfl ?_
  refine D_pure (i := 5) [0, 1, 2] rfl kr rfl (pr_cv (zc_i64u vk) Try.underlying2 Try.underlying30 rfl rfl) (.inr rfl) rfl rfl ?_
  refine D_take (i := 7) [0, 1, 2] rfl kr rfl (ld_blk 2 rfl rfl Try.underlying2 rfl rfl rfl) rfl rfl rfl ?_
  refine D_pure (i := 8) [0, 1, 2] rfl kr rfl (pr_cv (zc_i64u vv) Try.underlying2 Try.underlying30 rfl rfl) (.inr rfl) rfl rfl ?_
  refine D_take (i := 10) [0, 1, 2] rfl kr rfl (ld_blk 2 rfl rfl Try.underlying2 rfl rfl rfl) rfl rfl rfl ?_
  refine D_pure (i := 11) [0, 1, 2] rfl kr rfl (pr_cv (zc_i64u vs) Try.underlying2 Try.underlying30 rfl rfl) (.inr rfl) rfl rfl ?_
  refine D_one 2 _ rfl kr rfl (op_cn (fun w hw => bit_f d w (hok_nil w) ) (enters_of Try.func59 kr rfl) rfl rfl rfl rfl rfl (fun t18 q19 => ?_))
  refine D_on [0, 1, 2] rfl ?_
  refine D_one 12 _ rfl kr rfl (op_bslice (e := 30) (zs := [(b64 (bitw d)), (b64 vk), (b64 vv), (b64 vs)]) (qs := [(0, (b64 (bitw d))), (1, (b64 vk)), (2, (b64 vv)), (3, (b64 vs))]) (fun _ => by kernel_rfl) rfl rfl rfl rfl (fun g20 => ?_))
  refine D_on [1, 2, 3] rfl ?_
  refine D_one 13 _ rfl kr rfl (op_cn (fun w hw => all64_f (some ⟨g20, 0, none⟩) 4 4 w (hok_nil w) ) (enters_of Try.func58 kr rfl) rfl rfl rfl rfl rfl (fun t21 q22 => ?_))
  obtain ⟨g1_23, eg1_23⟩ : ∃ x, x = t21 := ⟨_, rfl⟩
  subst eg1_23
  refine D_on [2, 3, 4] rfl ?_
  refine D_done kr ?_
  refine T_block ?_
  refine T_tord 0 rfl ?_
  refine T_oldb 1 (zs := ([(bitw d), vk, vv, vs].map b64)) 0 1 4 4 rfl sd (by first | rfl | (rw [List.drop_zero, List.take_of_length_le (by first | (simp; omega) | (rw [rcs_len]; simp))])) sd sd ?_
  refine T_tord 0 rfl ?_
  refine T_nilrow 5 1 ?_
  refine T_as 0 _ (.row (.slice none (8 * 0) 0) 5 1 (8 * 0) ((eights (List.take 0 [(bitw d), vk, vv, vs])).map b8)) rfl (by first | rfl | simp | (congr 1; simp)) ?_
  refine T_as 3 _ (.blk g17 23 [(.slice none (8 * 0) 0)]) rfl (by first | rfl | simp | (congr 1; simp)) ?_
  refine T_range (Θ := Unit) (T := Option Addr × Nat) (Tx := Unit) (cap := [(.pointer (some ⟨g1_23, 0, none⟩))]) (ps := [23, 24]) (all64_seq [(bitw d), vk, vv, vs] (some ⟨g20, 0, none⟩) 4 4 g1_23 sd sd) rfl (enters_of Try.func73 kr rfl) (fun k ⟨A1, c1⟩ => k ≤ 4) (fun k ⟨A1, c1⟩ => [.row (.slice A1 (8 * k) c1) 5 1 (8 * k) ((eights (List.take k [(bitw d), vk, vv, vs])).map b8), .rd (some ⟨g1_23, 0, none⟩) 1 1 1 [(.slice (some ⟨g20, 0, none⟩) 4 4)], .blk g17 23 [(.slice A1 (8 * k) c1)], .blk g2 50 ((List.replicate 32 0#8).map b8), .blk g1 43 [(.bool d), (.int .i64 (i64 vk)), (.int .i64 (i64 vv)), (.int .i64 (i64 vs))]]) (fun _ => False) (fun _ => []) 0 (none, 0) (by omega) [1, 3, 0, 4, 5] ⟨by decide, rfl⟩ [3, 2] rfl rfl (fun _ _ => rfl) (fun _ => rfl) (fun _ _ => rfl) (fun _ _ => rfl) rfl (fun _ => trivial) ?_ ?_ ?_
  ·
   intro C2 w2 lo2 rs2 l D m k t th rc hrec hk hp
   obtain ⟨A1, c1⟩ := t
   have hp : k ≤ 4 := hp
   have hk : k < 4 := hk
   have hF : Wid (Fence.wide.inRound l) := wid_round l
   refine T_re [(3, (.pointer (some ⟨g17, 0, none⟩))), (23, (.int .i64 ((k : Nat) : Int))), (24, (b64 (ath [(bitw d), vk, vv, vs] k)))] (sc rfl (sc rfl (sc rfl sn))) ?_
   refine T_he [0, 1, 2, 3, 4, 5, 6] [.obj l (.loop rc), .obj D (.deferred (some [])), .row (.slice A1 (8 * k) c1) 5 1 (8 * k) ((eights (List.take k [(bitw d), vk, vv, vs])).map b8), .rd (some ⟨g1_23, 0, none⟩) 1 1 1 [(.slice (some ⟨g20, 0, none⟩) 4 4)], .blk g17 23 [(.slice A1 (8 * k) c1)], .blk g2 50 ((List.replicate 32 0#8).map b8), .blk g1 43 [(.bool d), (.int .i64 (i64 vk)), (.int .i64 (i64 vv)), (.int .i64 (i64 vs))]] ⟨by decide, rfl⟩ ?_
   refine T_reg hF rfl ?_
   refine la rfl rfl rfl rfl rfl ?_
   refine L_nil ?_
   refine T_begun 0 rfl hrec ?_
   refine T_block ?_
   refine T_reg hF rfl ?_
   refine lq rfl (ld_blk 4 rfl rfl Try.underlying23 rfl rfl rfl) rfl rfl ?_
   refine lm rfl rfl rfl rfl rfl ?_
   refine L_op rfl (op_c1 2 rfl (fun w hw => putLow_f (eights (List.take k [(bitw d), vk, vv, vs])) (ath [(bitw d), vk, vv, vs] k) 8 A1 (8 * k) c1 w (hw _ (List.mem_of_getElem? (i := 2) rfl)) sd sd) (enters_of Try.func60 kr rfl) rfl rfl rfl rfl rfl (fun t24 q25 => ?_))
   obtain ⟨B26, d27⟩ := t24
   refine L_op rfl (op_store (vs := [(.slice B26 ((8 * k) + 8) d27)]) (cs' := [(.slice B26 ((8 * k) + 8) d27)]) 4 rfl rfl kr (one_one rfl) (by first | decide | simp | exact Nat.le_refl _) rfl rfl rfl rfl rfl ?_)
   refine L_nil ?_
   refine T_as 1 _ (.row (.slice B26 (8 * (k + 1)) d27) 5 1 (8 * (k + 1)) ((eights (List.take (k + 1) [(bitw d), vk, vv, vs])).map b8)) rfl (by rw [eights_take _ _ (by simp; omega)]; rfl) ?_
   refine T_as 1 _ (.blk g17 23 [(.slice B26 (8 * (k + 1)) d27)]) rfl (by congr 1) ?_
   exact T_on (B26, d27) (by omega) [2, 3, 1, 4, 0, 5, 6] ⟨by decide, rfl⟩
  ·
   intro D t hp
   obtain ⟨A1, c1⟩ := t
   have hp : 4 ≤ 4 := hp
   have hel : (eights (List.take 4 [(bitw d), vk, vv, vs])).length = 32 := by rw [eights_len]; rfl
   refine T_re [(2, (.pointer (some ⟨g2, 0, none⟩))), (3, (.pointer (some ⟨g17, 0, none⟩)))] (sc rfl (sc rfl sn)) ?_
   refine T_he [0, 1, 2, 3, 4, 5] [.obj D (.deferred (some [])), .row (.slice A1 (8 * 4) c1) 5 1 (8 * 4) ((eights (List.take 4 [(bitw d), vk, vv, vs])).map b8), .rd (some ⟨g1_23, 0, none⟩) 1 1 1 [(.slice (some ⟨g20, 0, none⟩) 4 4)], .blk g17 23 [(.slice A1 (8 * 4) c1)], .blk g2 50 ((List.replicate 32 0#8).map b8), .blk g1 43 [(.bool d), (.int .i64 (i64 vk)), (.int .i64 (i64 vv)), (.int .i64 (i64 vs))]] ⟨by decide, rfl⟩ ?_
   refine Tsr hF rfl ?_
   refine lq rfl (ld_blk 3 rfl rfl Try.underlying23 rfl rfl rfl) rfl rfl ?_
   refine lo rfl (pr_s2a sd Try.underlying50 rfl rfl) rfl rfl ?_
   refine lq rfl (ld_aggs (ds := ((eights (List.take 4 [(bitw d), vk, vv, vs])).map b8)) (src_row 1 rfl) (List.take_length) (by have h1 : (((eights (List.take 4 [(bitw d), vk, vv, vs])).map b8)).length = 32 := sd; omega) Try.underlying50 rfl (fwz (n := 32) kr sd) rfl rfl) rfl rfl ?_
   refine L_op rfl (op_sto (n := 32) (vs := ((eights (List.take 4 [(bitw d), vk, vv, vs])).map b8)) 4 rfl rfl kr (all8_one _) kr sd rfl rfl rfl rfl ?_)
   refine L_nil ?_
   refine T_ret ?_
   refine T_as 0 _ (.blk g2 50 ((rpk (Rc.mk d vk vv vs)).map b8)) rfl (by first | (rw [rpk_t (by assumption)]; rfl) | (rw [rpk_f (by assumption), show d = false by assumption]; rfl)) ?_
   exact T_finM 1 rfl () (by first | trivial | omega | (simp; done)) (resb 0 rfl rfl rfl Try.underlying50 rfl (fwz (n := 32) kr sd)) [] ⟨by decide, rfl⟩ rfl
  ·
   exact fun D t hq => hq.elim
/-- The first so many bytes of some, the rest still zero. -/
def cpd (b : List (BitVec 8)) (k : Nat) : List (BitVec 8) := List.take k b ++ List.replicate (32 - k) 0#8
theorem cpd_len (b : List (BitVec 8)) (k : Nat) (hb : b.length = 32) (h : k ≤ 32) : (cpd b k).length = 32 := by unfold cpd; simp [hb]; omega
theorem cpd_set (b : List (BitVec 8)) (k : Nat) (hb : b.length = 32) (h : k < 32) : (cpd b k).set k (ath b k) = cpd b (k + 1) := by
  unfold cpd
  rw [List.set_append_right _ _ (by simp; omega), List.length_take, hb, show k - min k 32 = 0 from by omega, show 32 - k = (32 - (k + 1)) + 1 from by omega, List.replicate_succ, List.set_cons_zero, List.take_succ_eq_append_getElem (by omega), ath_get b k (by omega), List.append_assoc]
  rfl
theorem cpd_all (b : List (BitVec 8)) (hb : b.length = 32) : cpd b 32 = b := by unfold cpd; rw [List.take_of_length_le (by omega)]; simp

set_option maxHeartbeats 4000000 in
theorem rrpack_f (d : Bool) (vk : BitVec 64) (vv : BitVec 64) (vs : BitVec 64) (w : World) (hO : HOK [] w)  : Calls Try.prog 43 [(.agg [(.bool d), (.int .i64 (i64 vk)), (.int .i64 (i64 vv)), (.int .i64 (i64 vs))].toArray)].toArray w (Ret (T := Unit) [] w (fun _ => True) (fun _ => (.agg ((rpk (Rc.mk d vk vv vs)).map b8).toArray)) (fun _ => [])) := by
 have hrl := rpk_len (Rc.mk d vk vv vs)
 have hF : Wid Fence.wide := wid_wide
 refine enter (c := _) Try.func43 rfl [] _ [] (by rw [Try.ntmps43]; rfl) (own_rds hO rfl) ?_
 rw [Try.ntmps43]
 refine T_re [(0, (.agg [(.bool d), (.int .i64 (i64 vk)), (.int .i64 (i64 vv)), (.int .i64 (i64 vs))].toArray))] (sc rfl sn) ?_
 refine T_he [] [] ⟨by decide, rfl⟩ ?_
 refine Tsr hF rfl ?_
 refine L_op rfl (op_box (zs := [(.bool d), (.int .i64 (i64 vk)), (.int .i64 (i64 vv)), (.int .i64 (i64 vs))]) rfl rfl rfl rfl rfl (fun g1 => ?_))
 refine L_op rfl (op_alloc (z := .agg ((List.replicate 32 0#8).map b8).toArray) (zs := ((List.replicate 32 0#8).map b8)) kr rfl rfl rfl rfl (fun g2 => ?_))
 refine L_nil ?_
 refine Tsr hF rfl ?_
 refine lo rfl (pr_fa (m := 0) (m' := 1) (z := 0) (by rfl) Try.underlying43 rfl kr rfl rfl) rfl rfl ?_
 refine lq rfl (ld_blk 1 rfl rfl Try.underlying2 rfl rfl rfl) rfl rfl ?_
 refine lo rfl (pr_cv (zc_i64u vk) Try.underlying2 Try.underlying30 rfl rfl) rfl rfl ?_
 refine lo rfl (pr_fa (m := 0) (m' := 2) (z := 0) (by rfl) Try.underlying43 rfl kr rfl rfl) rfl rfl ?_
 refine lq rfl (ld_blk 1 rfl rfl Try.underlying2 rfl rfl rfl) rfl rfl ?_
 refine lo rfl (pr_cv (zc_i64u vv) Try.underlying2 Try.underlying30 rfl rfl) rfl rfl ?_
 refine lo rfl (pr_fa (m := 0) (m' := 3) (z := 0) (by rfl) Try.underlying43 rfl kr rfl rfl) rfl rfl ?_
 refine lq rfl (ld_blk 1 rfl rfl Try.underlying2 rfl rfl rfl) rfl rfl ?_
 refine lo rfl (pr_cv (zc_i64u vs) Try.underlying2 Try.underlying30 rfl rfl) rfl rfl ?_
 refine L_op rfl (op_bslice (e := 30) (zs := [(b64 (0#64)), (b64 vk), (b64 vv), (b64 vs)]) (qs := [(0, (b64 (0#64))), (1, (b64 vk)), (2, (b64 vv)), (3, (b64 vs))]) (fun _ => by kernel_rfl) rfl rfl rfl rfl (fun g3 => ?_))
 refine L_op rfl (op_cn (fun w hw => r8eights_f [0#64, vk, vv, vs] (some ⟨g3, 0, none⟩) 4 4 w (hok_cons ((src_full (z := 1) 0 rfl rfl sd sd) w hw) (hok_nil w)) sd sd) (enters_of Try.func29 kr rfl) rfl rfl rfl rfl rfl (fun t4 q5 => ?_))
 obtain ⟨B6, d7⟩ := t4
 refine la rfl rfl rfl rfl rfl ?_
 refine L_nil ?_
 refine T_seq ?_
 refine Tsr hF rfl ?_
 refine lo rfl (pr_fa (m := 0) (m' := 0) (z := 0) (by rfl) Try.underlying43 rfl kr rfl rfl) rfl rfl ?_
 refine lq rfl (ld_blk 3 rfl rfl Try.underlying4 rfl rfl rfl) rfl rfl ?_
 refine L_nil ?_
 refine T_cond d rfl (fun hc_8 => ?_) (fun hc_8 => ?_)
 ·
  refine T_reg hF rfl ?_
  refine L_op rfl (op_bslice (e := 30) (zs := [(b64 (1#64)), (b64 (0#64)), (b64 (0#64)), (b64 (0#64))]) (qs := [(0, (b64 (1#64))), (1, (b64 (0#64))), (2, (b64 (0#64))), (3, (b64 (0#64)))]) (fun _ => by kernel_rfl) rfl rfl rfl rfl (fun g9 => ?_))
  refine L_op rfl (op_cn (fun w hw => r8eights_f [1#64, 0#64, 0#64, 0#64] (some ⟨g9, 0, none⟩) 4 4 w (hok_cons ((src_full (z := 1) 0 rfl rfl sd sd) w hw) (hok_nil w)) sd sd) (enters_of Try.func29 kr rfl) rfl rfl rfl rfl rfl (fun t10 q11 => ?_))
  obtain ⟨B12, d13⟩ := t10
  refine la rfl rfl rfl rfl rfl ?_
  refine L_nil ?_
  refine Tsr hF rfl ?_
  refine L_op rfl (op_alloc (z := .agg ((List.replicate 32 0#8).map b8).toArray) (zs := ((List.replicate 32 0#8).map b8)) kr rfl rfl rfl rfl (fun g14 => ?_))
  refine L_nil ?_
  refine T_seq ?_
  refine Tsr hF rfl ?_
  refine la rfl rfl rfl rfl rfl ?_
  refine L_nil ?_
  refine T_block ?_
  refine T_as 0 _ (.blk g14 50 ((cpd (eights [1#64, 0#64, 0#64, 0#64]) 0).map b8)) rfl (rfl) ?_
  refine T_loop (T := Nat) (fun j => j ≤ 32) (fun j => [(2, (.pointer (some ⟨g2, 0, none⟩))), (3, (.slice B12 (8 * 4) d13)), (4, (.pointer (some ⟨g14, 0, none⟩))), (5, (.int .i64 ((j : Nat) : Int)))]) (fun j => [.blk g14 50 ((cpd (eights [1#64, 0#64, 0#64, 0#64]) j).map b8), .row (.slice B12 (8 * 4) d13) 5 1 (8 * 4) ((eights [1#64, 0#64, 0#64, 0#64]).map b8), .blk g9 30 [(b64 (1#64)), (b64 (0#64)), (b64 (0#64)), (b64 (0#64))], .row (.slice B6 (8 * 4) d7) 5 1 (8 * 4) ((eights [0#64, vk, vv, vs]).map b8), .blk g3 30 [(b64 (0#64)), (b64 vk), (b64 vv), (b64 vs)], .blk g2 50 ((List.replicate 32 0#8).map b8), .blk g1 43 [(.bool d), (.int .i64 (i64 vk)), (.int .i64 (i64 vv)), (.int .i64 (i64 vs))]]) (fun j => 32 - j) 0 (by omega) (sc rfl (sc rfl (sc rfl (sc rfl sn)))) [0, 1, 2, 3, 4, 5, 6] ⟨by decide, rfl⟩ ?_
  rintro j hp
  have hp : j ≤ 32 := hp
  have hel : ((eights [1#64, 0#64, 0#64, 0#64])).length = 32 := by rw [eights_len]; rfl
  have hcp := cpd_len (eights [1#64, 0#64, 0#64, 0#64]) j hel hp
  refine T_re [(2, (.pointer (some ⟨g2, 0, none⟩))), (3, (.slice B12 (8 * 4) d13)), (4, (.pointer (some ⟨g14, 0, none⟩))), (5, (.int .i64 ((j : Nat) : Int)))] (sc rfl (sc rfl (sc rfl (sc rfl sn)))) ?_
  refine T_he [0, 1, 2, 3, 4, 5, 6] [.blk g14 50 ((cpd (eights [1#64, 0#64, 0#64, 0#64]) j).map b8), .row (.slice B12 (8 * 4) d13) 5 1 (8 * 4) ((eights [1#64, 0#64, 0#64, 0#64]).map b8), .blk g9 30 [(b64 (1#64)), (b64 (0#64)), (b64 (0#64)), (b64 (0#64))], .row (.slice B6 (8 * 4) d7) 5 1 (8 * 4) ((eights [0#64, vk, vv, vs]).map b8), .blk g3 30 [(b64 (0#64)), (b64 vk), (b64 vv), (b64 vs)], .blk g2 50 ((List.replicate 32 0#8).map b8), .blk g1 43 [(.bool d), (.int .i64 (i64 vk)), (.int .i64 (i64 vv)), (.int .i64 (i64 vs))]] ⟨by decide, rfl⟩ ?_
  refine T_seq ?_
  refine Tsr hF rfl ?_
  refine lm rfl rfl rfl rfl rfl ?_
  refine lo rfl (pr_cmp (bo := .lss) (nc_lt (a := j) (b := 32)) rfl rfl rfl rfl) rfl rfl ?_
  refine L_nil ?_
  refine T_cond (decide (j < 32)) rfl (fun hc_15 => ?_) (fun hc_15 => ?_)
  ·
   have hc_15 := of_decide_eq_true hc_15
   refine T_skip ?_
   refine T_seq ?_
   refine T_block ?_
   refine T_reg hF rfl ?_
   refine lm rfl rfl rfl rfl rfl ?_
   refine lm rfl rfl rfl rfl rfl ?_
   refine lm rfl rfl rfl rfl rfl ?_
   refine lo rfl (pr_ixs1 (j := j) (src_none (src_row 1 rfl)) sd Try.underlying23 kr rfl rfl rfl) rfl rfl ?_
   refine lq rfl (ld_src (m := j) (src_row 1 rfl) (get8 sd) Try.underlying5 rfl rfl rfl) rfl rfl ?_
   refine lo rfl (pr_ixa (j := j) (m' := j) sd (by omega) Try.underlying50 (z := 1) kr rfl rfl rfl) rfl rfl ?_
   refine L_op rfl (op_store (vs := [(b8 (ath (eights [1#64, 0#64, 0#64, 0#64]) j))]) (cs' := ((List.set (cpd (eights [1#64, 0#64, 0#64, 0#64]) j) j (ath (eights [1#64, 0#64, 0#64, 0#64]) j)).map b8)) 0 rfl rfl kr (one_one rfl) (stl sd) (splice_map (f := b8) sd) rfl rfl rfl rfl ?_)
   refine L_nil ?_
   refine T_reg hF rfl ?_
   refine lm rfl rfl rfl rfl rfl ?_
   refine lo rfl (pr_add (na_i64 (a := j) (b := 1) sd) rfl rfl rfl) rfl rfl ?_
   refine la rfl rfl rfl rfl rfl ?_
   refine L_nil ?_
   refine T_as 0 _ (.blk g14 50 ((cpd (eights [1#64, 0#64, 0#64, 0#64]) (j + 1)).map b8)) rfl (by rw [cpd_set _ j hel (by omega)]) ?_
   exact T_again (j + 1) (by first | trivial | ((try dsimp only); first | omega | (refine ⟨?_, ?_⟩ <;> omega) | (refine ⟨?_, ?_, ?_⟩ <;> omega) | (simp; done) | (simp; omega))) (by first | trivial | ((try dsimp only); first | omega | (refine ⟨?_, ?_⟩ <;> omega) | (refine ⟨?_, ?_, ?_⟩ <;> omega) | (simp; done) | (simp; omega))) (sc rfl (sc rfl (sc rfl (sc rfl sn)))) [0, 1, 2, 3, 4, 5, 6] ⟨by decide, rfl⟩
  ·
   have hc_15 := of_decide_eq_false hc_15
   refine T_exit rfl ?_
   obtain rfl : 32 = j := by omega
   have hel2 := cpd_all (eights [1#64, 0#64, 0#64, 0#64]) hel
   refine Tsr hF rfl ?_
   refine lq rfl (ld_agg (ds := ((cpd (eights [1#64, 0#64, 0#64, 0#64]) 32).map b8)) 0 rfl agg_all Try.underlying50 rfl (fwz (n := 32) kr sd) rfl rfl) rfl rfl ?_
   refine L_op rfl (op_sto (n := 32) (vs := ((cpd (eights [1#64, 0#64, 0#64, 0#64]) 32).map b8)) 5 rfl rfl kr (all8_one _) kr sd rfl rfl rfl rfl ?_)
   refine L_nil ?_
   refine T_ret ?_
   refine T_as 0 _ (.blk g2 50 ((rpk (Rc.mk d vk vv vs)).map b8)) rfl (by first | (rw [rpk_t (by assumption), hel2]) | (rw [rpk_f (by assumption), hel2])) ?_
   exact T_fin () (by first | trivial | omega | (simp; done)) (resb 0 rfl rfl rfl Try.underlying50 rfl (fwz (n := 32) kr sd)) [] ⟨by decide, rfl⟩ rfl
 ·
  refine T_skip ?_
  refine Tsr hF rfl ?_
  refine L_op rfl (op_alloc (z := .agg ((List.replicate 32 0#8).map b8).toArray) (zs := ((List.replicate 32 0#8).map b8)) kr rfl rfl rfl rfl (fun g16 => ?_))
  refine L_nil ?_
  refine T_seq ?_
  refine Tsr hF rfl ?_
  refine la rfl rfl rfl rfl rfl ?_
  refine L_nil ?_
  refine T_block ?_
  refine T_as 0 _ (.blk g16 50 ((cpd (eights [0#64, vk, vv, vs]) 0).map b8)) rfl (rfl) ?_
  refine T_loop (T := Nat) (fun j => j ≤ 32) (fun j => [(2, (.pointer (some ⟨g2, 0, none⟩))), (3, (.slice B6 (8 * 4) d7)), (4, (.pointer (some ⟨g16, 0, none⟩))), (5, (.int .i64 ((j : Nat) : Int)))]) (fun j => [.blk g16 50 ((cpd (eights [0#64, vk, vv, vs]) j).map b8), .row (.slice B6 (8 * 4) d7) 5 1 (8 * 4) ((eights [0#64, vk, vv, vs]).map b8), .blk g3 30 [(b64 (0#64)), (b64 vk), (b64 vv), (b64 vs)], .blk g2 50 ((List.replicate 32 0#8).map b8), .blk g1 43 [(.bool d), (.int .i64 (i64 vk)), (.int .i64 (i64 vv)), (.int .i64 (i64 vs))]]) (fun j => 32 - j) 0 (by omega) (sc rfl (sc rfl (sc rfl (sc rfl sn)))) [0, 1, 2, 3, 4] ⟨by decide, rfl⟩ ?_
  rintro j hp
  have hp : j ≤ 32 := hp
  have hel : ((eights [0#64, vk, vv, vs])).length = 32 := by rw [eights_len]; rfl
  have hcp := cpd_len (eights [0#64, vk, vv, vs]) j hel hp
  refine T_re [(2, (.pointer (some ⟨g2, 0, none⟩))), (3, (.slice B6 (8 * 4) d7)), (4, (.pointer (some ⟨g16, 0, none⟩))), (5, (.int .i64 ((j : Nat) : Int)))] (sc rfl (sc rfl (sc rfl (sc rfl sn)))) ?_
  refine T_he [0, 1, 2, 3, 4] [.blk g16 50 ((cpd (eights [0#64, vk, vv, vs]) j).map b8), .row (.slice B6 (8 * 4) d7) 5 1 (8 * 4) ((eights [0#64, vk, vv, vs]).map b8), .blk g3 30 [(b64 (0#64)), (b64 vk), (b64 vv), (b64 vs)], .blk g2 50 ((List.replicate 32 0#8).map b8), .blk g1 43 [(.bool d), (.int .i64 (i64 vk)), (.int .i64 (i64 vv)), (.int .i64 (i64 vs))]] ⟨by decide, rfl⟩ ?_
  refine T_seq ?_
  refine Tsr hF rfl ?_
  refine lm rfl rfl rfl rfl rfl ?_
  refine lo rfl (pr_cmp (bo := .lss) (nc_lt (a := j) (b := 32)) rfl rfl rfl rfl) rfl rfl ?_
  refine L_nil ?_
  refine T_cond (decide (j < 32)) rfl (fun hc_17 => ?_) (fun hc_17 => ?_)
  ·
   have hc_17 := of_decide_eq_true hc_17
   refine T_skip ?_
   refine T_seq ?_
   refine T_block ?_
   refine T_reg hF rfl ?_
   refine lm rfl rfl rfl rfl rfl ?_
   refine lm rfl rfl rfl rfl rfl ?_
   refine lm rfl rfl rfl rfl rfl ?_
   refine lo rfl (pr_ixs1 (j := j) (src_none (src_row 1 rfl)) sd Try.underlying23 kr rfl rfl rfl) rfl rfl ?_
   refine lq rfl (ld_src (m := j) (src_row 1 rfl) (get8 sd) Try.underlying5 rfl rfl rfl) rfl rfl ?_
   refine lo rfl (pr_ixa (j := j) (m' := j) sd (by omega) Try.underlying50 (z := 1) kr rfl rfl rfl) rfl rfl ?_
   refine L_op rfl (op_store (vs := [(b8 (ath (eights [0#64, vk, vv, vs]) j))]) (cs' := ((List.set (cpd (eights [0#64, vk, vv, vs]) j) j (ath (eights [0#64, vk, vv, vs]) j)).map b8)) 0 rfl rfl kr (one_one rfl) (stl sd) (splice_map (f := b8) sd) rfl rfl rfl rfl ?_)
   refine L_nil ?_
   refine T_reg hF rfl ?_
   refine lm rfl rfl rfl rfl rfl ?_
   refine lo rfl (pr_add (na_i64 (a := j) (b := 1) sd) rfl rfl rfl) rfl rfl ?_
   refine la rfl rfl rfl rfl rfl ?_
   refine L_nil ?_
   refine T_as 0 _ (.blk g16 50 ((cpd (eights [0#64, vk, vv, vs]) (j + 1)).map b8)) rfl (by rw [cpd_set _ j hel (by omega)]) ?_
   exact T_again (j + 1) (by first | trivial | ((try dsimp only); first | omega | (refine ⟨?_, ?_⟩ <;> omega) | (refine ⟨?_, ?_, ?_⟩ <;> omega) | (simp; done) | (simp; omega))) (by first | trivial | ((try dsimp only); first | omega | (refine ⟨?_, ?_⟩ <;> omega) | (refine ⟨?_, ?_, ?_⟩ <;> omega) | (simp; done) | (simp; omega))) (sc rfl (sc rfl (sc rfl (sc rfl sn)))) [0, 1, 2, 3, 4] ⟨by decide, rfl⟩
  ·
   have hc_17 := of_decide_eq_false hc_17
   refine T_exit rfl ?_
   obtain rfl : 32 = j := by omega
   have hel2 := cpd_all (eights [0#64, vk, vv, vs]) hel
   refine Tsr hF rfl ?_
   refine lq rfl (ld_agg (ds := ((cpd (eights [0#64, vk, vv, vs]) 32).map b8)) 0 rfl agg_all Try.underlying50 rfl (fwz (n := 32) kr sd) rfl rfl) rfl rfl ?_
   refine L_op rfl (op_sto (n := 32) (vs := ((cpd (eights [0#64, vk, vv, vs]) 32).map b8)) 3 rfl rfl kr (all8_one _) kr sd rfl rfl rfl rfl ?_)
   refine L_nil ?_
   refine T_ret ?_
   refine T_as 0 _ (.blk g2 50 ((rpk (Rc.mk d vk vv vs)).map b8)) rfl (by first | (rw [rpk_t (by assumption), hel2]) | (rw [rpk_f (by assumption), hel2])) ?_
   exact T_fin () (by first | trivial | omega | (simp; done)) (resb 0 rfl rfl rfl Try.underlying50 rfl (fwz (n := 32) kr sd)) [] ⟨by decide, rfl⟩ rfl
end Go.Proofs.Ytlplpmkdebemnaa
namespace Go.Proofs.Ytlplpmkdebemnaa
set_option linter.unusedVariables false
set_option linter.unusedSimpArgs false
set_option linter.unnecessarySimpa false
set_option maxRecDepth 100000
open Go.RowKit Bv Fw

/-- A record that is none. -/
def rdead : Rc := ⟨true, 0#64, 0#64, 0#64⟩
/-- Records' bytes, one behind the other. -/
def pkl : List Rc → List (BitVec 8)
  | [] => []
  | x :: l => rpk x ++ pkl l
theorem pkl_len : ∀ xs, (pkl xs).length = 32 * xs.length
  | [] => rfl
  | x :: xs => by rw [pkl, List.length_append, rpk_len, pkl_len xs, List.length_cons]; omega
theorem pkl_app (xs ys : List Rc) : pkl (xs ++ ys) = pkl xs ++ pkl ys := by
  induction xs with
  | nil => rfl
  | cons x xs ih => rw [List.cons_append, pkl, pkl, ih, List.append_assoc]
theorem pkl_take (xs : List Rc) (k : Nat) (h : k < xs.length) : pkl (xs.take (k + 1)) = pkl (xs.take k) ++ rpk (rat xs k) := by
  rw [List.take_succ_eq_append_getElem h, pkl_app]
  congr 1
  rw [rat, List.getD_eq_getElem?_getD, List.getElem?_eq_getElem h]
  all_goals exact List.append_nil _
theorem pkl_rep (xs : List Rc) (j : Nat) : pkl (xs ++ List.replicate (j + 1) rdead) = pkl (xs ++ List.replicate j rdead) ++ rpk rdead := by
  rw [List.replicate_succ', ← List.append_assoc, pkl_app]
  congr 1
  all_goals exact List.append_nil _
/-- Why records are no block; how long it is; its bytes. -/
def bpe (n : Nat) (z : Int) : Nat := if z < 1 ∨ 8 < z then 1 else if z < n then 5 else 0
def bpl (n : Nat) (z : Int) : Nat := if bpe n z = 0 then 32 * z.toNat else 0
def bpb (xs : List Rc) (z : Int) : List (BitVec 8) := if bpe xs.length z = 0 then pkl (xs ++ List.replicate (z.toNat - xs.length) rdead) else []
theorem bpe_arg {n : Nat} {z : Int} (h : z < 1 ∨ 8 < z) : bpe n z = 1 := by unfold bpe; rw [if_pos h]
theorem bpe_lim {n : Nat} {z : Int} (h1 : 1 ≤ z) (h2 : z ≤ 8) (h : z < n) : bpe n z = 5 := by unfold bpe; rw [if_neg (by omega), if_pos h]
theorem bpe_ok {n : Nat} {z : Int} (h1 : 1 ≤ z) (h2 : z ≤ 8) (h : ¬ z < n) : bpe n z = 0 := by unfold bpe; rw [if_neg (by omega), if_neg h]
theorem bpl_arg {n : Nat} {z : Int} (h : z < 1 ∨ 8 < z) : bpl n z = 0 := by unfold bpl; rw [bpe_arg h]; rfl
theorem bpl_lim {n : Nat} {z : Int} (h1 : 1 ≤ z) (h2 : z ≤ 8) (h : z < n) : bpl n z = 0 := by unfold bpl; rw [bpe_lim h1 h2 h]; rfl
theorem bpl_ok {n q : Nat} {z : Int} (hq : z = (q : Int)) (h1 : 1 ≤ z) (h2 : z ≤ 8) (h : ¬ z < n) : bpl n z = 32 * (n + (q - n)) := by unfold bpl; rw [if_pos (bpe_ok h1 h2 h)]; omega
theorem bpl_val {n : Nat} {z : Int} (h1 : 1 ≤ z) (h2 : z ≤ 8) (h : ¬ z < n) : ((bpl n z : Nat) : Int) = 32 * z := by unfold bpl; rw [if_pos (bpe_ok h1 h2 h)]; omega
theorem bpb_arg {xs : List Rc} {z : Int} (h : z < 1 ∨ 8 < z) : bpb xs z = [] := by unfold bpb; rw [bpe_arg h]; rfl
theorem bpb_lim {xs : List Rc} {z : Int} (h1 : 1 ≤ z) (h2 : z ≤ 8) (h : z < xs.length) : bpb xs z = [] := by unfold bpb; rw [bpe_lim h1 h2 h]; rfl
theorem bpb_ok {xs : List Rc} {n q : Nat} {z : Int} (hn : xs.length = n) (hq : z = (q : Int)) (h1 : 1 ≤ z) (h2 : z ≤ 8) (h : ¬ z < n) : bpb xs z = pkl (xs ++ List.replicate (q - n) rdead) := by
  subst hn hq
  unfold bpb; rw [if_pos (bpe_ok h1 h2 h)]; rfl
theorem bpb_len {xs : List Rc} {n : Nat} {z : Int} (hn : xs.length = n) : (bpb xs z).length = bpl n z := by
  subst hn
  unfold bpb bpl
  split
  · rename_i h
    have : 1 ≤ z ∧ z ≤ 8 ∧ ¬ z < xs.length := by
      unfold bpe at h
      split at h
      · cases h
      · split at h
        · cases h
        · omega
    rw [pkl_len, List.length_append, List.length_replicate]; omega
  · rfl
/-- May a block be of so many records? -/
def mayb (z : Int) : Bool := decide (1 ≤ z) && decide (z ≤ 8)
theorem mayb_f {z : Int} (h : (!mayb z) = true) : z < 1 ∨ 8 < z := by unfold mayb at h; simp at h; omega
theorem mayb_t {z : Int} (h : (!mayb z) = false) : 1 ≤ z ∧ z ≤ 8 := by unfold mayb at h; simp at h; omega
theorem mayb_1 {z : Int} (h : ¬ ((1 : Nat) : Int) ≤ z) : mayb z = false := by unfold mayb; simp; omega
theorem mayb_2 {z : Int} (h : ((1 : Nat) : Int) ≤ z) : mayb z = decide (z ≤ ((8 : Nat) : Int)) := by unfold mayb; rw [decide_eq_true (show 1 ≤ z from h)]; rfl
/-- How long a sealed block is. -/
def bsz (z : Int) : Int := 32 * max 0 (min z 8) + 16

set_option maxHeartbeats 4000000 in
theorem valsr_seq (xs : List Rc) (A : Option Addr) (n : Nat) (c : Nat) (g1 : Nat) (hx : xs.length = n) (hn : n ≤ 1000000) : SeqC (Θ := Unit) Try.prog 57 [(.pointer (some ⟨g1, 0, none⟩))] [.rd (some ⟨g1, 0, none⟩) 1 1 1 [(.slice A n c)], .rd A 4 n c (rcs xs)] n (fun k _ => [(.agg [(.bool ((rat xs k).d)), (.int .i64 (i64 (rat xs k).k)), (.int .i64 (i64 (rat xs k).v)), (.int .i64 (i64 (rat xs k).s))].toArray)]) (fun k _ => []) := by
 have hF : Wid Fence.wide := wid_wide
 refine enter_seq (c := _) Try.func57 rfl (by rw [Try.ntmps57]; rfl) rfl ?_
 intro l J Jx W O R hsJ hsX hy hend
 rw [Try.ntmps57]
 refine T_re [(0, (.func (.yield l) #[] #[])), (1, (.pointer (some ⟨g1, 0, none⟩)))] (sc rfl (sc rfl sn)) ?_
 refine T_he [0, 1, 2] [.inv W.heap.size O R (J 0 O R), .rd (some ⟨g1, 0, none⟩) 1 1 1 [(.slice A n c)], .rd A 4 n c (rcs xs)] ⟨by decide, rfl⟩ ?_
 refine Tsr hF rfl ?_
 refine lq rfl (ld_rdb (src_rd 1 rfl) rfl Try.underlying27 rfl rfl rfl) rfl rfl ?_
 refine lo rfl (pr_len_sl Try.underlying27 rfl rfl) rfl rfl ?_
 refine lm rfl rfl rfl rfl rfl ?_
 refine L_nil ?_
 refine T_block ?_
 refine T_loop (T := Nat × List Nat × List Nat) (fun ⟨k, O, R⟩ => k ≤ n) (fun ⟨k, O, R⟩ => [(0, (.func (.yield l) #[] #[])), (5, (.slice A n c)), (6, (.int .i64 ((n : Nat) : Int))), (7, (.int .i64 ((k : Nat) : Int)))]) (fun ⟨k, O, R⟩ => [.inv W.heap.size O R (J k O R), .rd (some ⟨g1, 0, none⟩) 1 1 1 [(.slice A n c)], .rd A 4 n c (rcs xs)]) (fun ⟨k, O, R⟩ => n - k) (0, O, R) (by first | trivial | ((try dsimp only); first | omega | (refine ⟨?_, ?_⟩ <;> omega) | (refine ⟨?_, ?_, ?_⟩ <;> omega) | (simp; done) | (simp; omega))) (sc rfl (sc rfl (sc rfl (sc rfl sn)))) [0, 1, 2] ⟨by decide, rfl⟩ ?_
 rintro ⟨k, O, R⟩ hp
 have hp : k ≤ n := hp
 refine T_re [(0, (.func (.yield l) #[] #[])), (5, (.slice A n c)), (6, (.int .i64 ((n : Nat) : Int))), (7, (.int .i64 ((k : Nat) : Int)))] (sc rfl (sc rfl (sc rfl (sc rfl sn)))) ?_
 refine T_he [0, 1, 2] [.inv W.heap.size O R (J k O R), .rd (some ⟨g1, 0, none⟩) 1 1 1 [(.slice A n c)], .rd A 4 n c (rcs xs)] ⟨by decide, rfl⟩ ?_
 refine Tsr hF rfl ?_
 refine lo rfl (pr_cmp (bo := .lss) (nc_lt (a := k) (b := n)) rfl rfl rfl rfl) rfl rfl ?_
 refine L_nil ?_
 refine T_seq ?_
 refine T_cond (decide (k < n)) rfl (fun hc_1 => ?_) (fun hc_1 => ?_)
 ·
  have hc_1 := of_decide_eq_true hc_1
  refine T_skip ?_
  refine T_seq ?_
  refine T_block ?_
  refine Tsr hF rfl ?_
  refine lo rfl (pr_ixs (j := k) (src_none (src_rd 2 rfl)) sd Try.underlying27 (z := 4) kr rfl rfl rfl) rfl rfl ?_
  refine lq rfl (ld_rc (j := k) (src_rd 2 rfl) sd Try.underlying43 rfl kr rfl rfl) rfl rfl ?_
  refine L_op rfl (op_alloc (z := .agg [(.bool false), (.int .i64 ((0 : Nat) : Int)), (.int .i64 ((0 : Nat) : Int)), (.int .i64 ((0 : Nat) : Int))].toArray) (zs := [(.bool false), (.int .i64 ((0 : Nat) : Int)), (.int .i64 ((0 : Nat) : Int)), (.int .i64 ((0 : Nat) : Int))]) kr rfl rfl rfl rfl (fun g2 => ?_))
  refine L_op rfl (op_sto (n := 4) (vs := [(.bool ((rat xs k).d)), (.int .i64 (i64 (rat xs k).k)), (.int .i64 (i64 (rat xs k).v)), (.int .i64 (i64 (rat xs k).s))]) 0 rfl rfl kr (by simp [Value.oneCell']) kr kr rfl rfl rfl rfl ?_)
  refine L_nil ?_
  refine T_seq ?_
  refine T_regI ?_
  refine LI_opP hF rfl rfl (op_pr (pr_move rfl rfl) rfl rfl ?_)
  refine LI_opP hF rfl rfl (op_ld (ld_agg (ds := [(.bool ((rat xs k).d)), (.int .i64 (i64 (rat xs k).k)), (.int .i64 (i64 (rat xs k).v)), (.int .i64 (i64 (rat xs k).s))]) 0 rfl agg_all Try.underlying43 rfl kr rfl rfl) rfl rfl ?_)
  refine LI_op rfl (op_yield (k := k) () hy sd hsJ hsX 1 rfl [] rfl rfl rfl rfl rfl rfl rfl rfl rfl (fun _ => trivial) (fun O3 R4 => ?_) (fun O5 R6 => ?_))
  ·
   refine LI_opP hF rfl rfl (op_pr (pr_un (v := .bool false) rfl rfl rfl) rfl rfl ?_)
   refine LI_nil ?_
   refine T_cond_f rfl ?_
   refine T_skip ?_
   refine T_reg hF rfl ?_
   refine lo rfl (pr_add (na_i64 (a := k) (b := 1) sd) rfl rfl rfl) rfl rfl ?_
   refine lm rfl rfl rfl rfl rfl ?_
   refine L_nil ?_
   exact T_again (k + 1, O3, R4) (by first | trivial | ((try dsimp only); first | omega | (refine ⟨?_, ?_⟩ <;> omega) | (refine ⟨?_, ?_, ?_⟩ <;> omega) | (simp; done) | (simp; omega))) (by first | trivial | ((try dsimp only); first | omega | (refine ⟨?_, ?_⟩ <;> omega) | (refine ⟨?_, ?_, ?_⟩ <;> omega) | (simp; done) | (simp; omega))) (sc rfl (sc rfl (sc rfl (sc rfl sn)))) [0, 2, 3] ⟨by decide, rfl⟩
  ·
   refine LI_opP hF rfl rfl (op_pr (pr_un (v := .bool true) rfl rfl rfl) rfl rfl ?_)
   refine LI_nil ?_
   refine T_cond_t rfl ?_
   refine T_ret ?_
   exact T_finX rfl rfl 0 rfl
 ·
  have hc_1 := of_decide_eq_false hc_1
  refine T_exit rfl ?_
  obtain rfl : k = n := by omega
  exact T_finJ rfl rfl 0 rfl
set_option maxHeartbeats 4000000 in
theorem valsr_f (A : Option Addr) (n : Nat) (c : Nat) (w : World) (hO : HOK [] w)  : Calls Try.prog 34 [(.slice A n c)].toArray w (Ret (T := Nat) [] w (fun g1 => True) (fun g1 => (.func (.func 57) #[] [(.pointer (some ⟨g1, 0, none⟩))].toArray)) (fun g1 => [.old (some ⟨g1, 0, none⟩) 1 1 1 [(.slice A n c)]])) := by
 have hF : Wid Fence.wide := wid_wide
 refine enter (c := _) Try.func34 rfl [] _ [] (by rw [Try.ntmps34]; rfl) (own_rds hO rfl) ?_
 rw [Try.ntmps34]
 refine T_re [(0, (.slice A n c))] (sc rfl sn) ?_
 refine T_he [] [] ⟨by decide, rfl⟩ ?_
 refine Tsr hF rfl ?_
 refine L_op rfl (op_box (zs := [(.slice A n c)]) rfl rfl rfl rfl rfl (fun g1 => ?_))
 refine la rfl rfl rfl rfl rfl ?_
 refine L_nil ?_
 refine Tsr hF rfl ?_
 refine lo rfl (pr_mkfn (us := []) (vs := [(.pointer (some ⟨g1, 0, none⟩))]) rfl rfl rfl) rfl rfl ?_
 refine la rfl rfl rfl rfl rfl ?_
 refine L_nil ?_
 refine T_ret ?_
 refine T_oldb 0 (zs := [(.slice A n c)]) 0 1 1 1 rfl rfl rfl sd sd ?_
 exact T_fin g1 (by first | trivial | omega | (simp; done)) (res1 rfl rfl) [0] ⟨by decide, rfl⟩ rfl
set_option maxHeartbeats 4000000 in
theorem may_f (z : Int) (w : World) (hO : HOK [] w)  : Calls Try.prog 33 [(.int .i64 z)].toArray w (Ret (T := Unit) [] w (fun _ => True) (fun _ => (.bool (mayb z))) (fun _ => [])) := by
 have hF : Wid Fence.wide := wid_wide
 refine enter (c := _) Try.func33 rfl [] _ [] (by rw [Try.ntmps33]; rfl) (own_rds hO rfl) ?_
 rw [Try.ntmps33]
 refine T_re [(0, (.int .i64 z))] (sc rfl sn) ?_
 refine T_he [] [] ⟨by decide, rfl⟩ ?_
 refine Tsr hF rfl ?_
 refine la rfl rfl rfl rfl rfl ?_
 refine L_nil ?_
 refine Tsr hF rfl ?_
 refine lm rfl rfl rfl rfl rfl ?_
 refine lo rfl (pr_cmp (bo := .geq) (k := .i64) (a := z) (b := ((1 : Nat) : Int)) (c := decide (((1 : Nat) : Int) ≤ z)) rfl rfl rfl rfl rfl) rfl rfl ?_
 refine lm rfl rfl rfl rfl rfl ?_
 rcases Bool.eq_false_or_eq_true (decide (((1 : Nat) : Int) ≤ z)) with hc_1 | hc_1
 ·
  refine T_slot 5 (.bool (decide (((1 : Nat) : Int) ≤ z))) (.bool true) rfl (congrArg _ hc_1) ?_
  refine T_slot 4 (.bool (decide (((1 : Nat) : Int) ≤ z))) (.bool true) rfl (congrArg _ hc_1) ?_
  have hc_1 := of_decide_eq_true hc_1
  refine lm rfl rfl rfl rfl rfl ?_
  refine lo rfl (pr_cmp (bo := .leq) (k := .i64) (a := z) (b := ((8 : Nat) : Int)) (c := decide (z ≤ ((8 : Nat) : Int))) rfl rfl rfl rfl rfl) rfl rfl ?_
  refine lo rfl (pr_pick_t rfl rfl rfl) rfl rfl ?_
  refine la rfl rfl rfl rfl rfl ?_
  refine L_nil ?_
  refine T_ret ?_
  refine T_slot 2 (.bool (decide (z ≤ ((8 : Nat) : Int)))) (.bool (mayb z)) rfl (by first | (rw [mayb_1 (by assumption)]) | (rw [mayb_2 (by assumption)])) ?_
  exact T_fin () (by first | trivial | omega | (simp; done)) (res1 rfl rfl) [] ⟨by decide, rfl⟩ rfl
 ·
  refine T_slot 5 (.bool (decide (((1 : Nat) : Int) ≤ z))) (.bool false) rfl (congrArg _ hc_1) ?_
  refine T_slot 4 (.bool (decide (((1 : Nat) : Int) ≤ z))) (.bool false) rfl (congrArg _ hc_1) ?_
  have hc_1 := of_decide_eq_false hc_1
  refine L_skip rfl rfl rfl ?_
  refine L_skip rfl rfl rfl ?_
  refine lo rfl (pr_pick_f rfl rfl rfl) rfl rfl ?_
  refine la rfl rfl rfl rfl rfl ?_
  refine L_nil ?_
  refine T_ret ?_
  refine T_slot 2 (.bool false) (.bool (mayb z)) rfl (by first | (rw [mayb_1 (by assumption)]) | (rw [mayb_2 (by assumption)])) ?_
  exact T_fin () (by first | trivial | omega | (simp; done)) (res1 rfl rfl) [] ⟨by decide, rfl⟩ rfl
set_option maxHeartbeats 4000000 in
theorem rmay_f (z : Int) (w : World) (hO : HOK [] w)  : Calls Try.prog 41 [(.int .i64 z)].toArray w (Ret (T := Unit) [] w (fun _ => True) (fun _ => (.bool (mayb z))) (fun _ => [])) := by
 have hF : Wid Fence.wide := wid_wide
 refine enter (c := _) Try.func41 rfl [] _ [] (by rw [Try.ntmps41]; rfl) (own_rds hO rfl) ?_
 rw [Try.ntmps41]
 refine T_re [(0, (.int .i64 z))] (sc rfl sn) ?_
 refine T_he [] [] ⟨by decide, rfl⟩ ?_
 refine Tsr hF rfl ?_
 refine la rfl rfl rfl rfl rfl ?_
 refine L_nil ?_
 refine Tsr hF rfl ?_
 refine lm rfl rfl rfl rfl rfl ?_
 refine lo rfl (pr_cmp (bo := .geq) (k := .i64) (a := z) (b := ((1 : Nat) : Int)) (c := decide (((1 : Nat) : Int) ≤ z)) rfl rfl rfl rfl rfl) rfl rfl ?_
 refine lm rfl rfl rfl rfl rfl ?_
 rcases Bool.eq_false_or_eq_true (decide (((1 : Nat) : Int) ≤ z)) with hc_1 | hc_1
 ·
  refine T_slot 5 (.bool (decide (((1 : Nat) : Int) ≤ z))) (.bool true) rfl (congrArg _ hc_1) ?_
  refine T_slot 4 (.bool (decide (((1 : Nat) : Int) ≤ z))) (.bool true) rfl (congrArg _ hc_1) ?_
  have hc_1 := of_decide_eq_true hc_1
  refine lm rfl rfl rfl rfl rfl ?_
  refine lo rfl (pr_cmp (bo := .leq) (k := .i64) (a := z) (b := ((8 : Nat) : Int)) (c := decide (z ≤ ((8 : Nat) : Int))) rfl rfl rfl rfl rfl) rfl rfl ?_
  refine lo rfl (pr_pick_t rfl rfl rfl) rfl rfl ?_
  refine la rfl rfl rfl rfl rfl ?_
  refine L_nil ?_
  refine T_ret ?_
  refine T_slot 2 (.bool (decide (z ≤ ((8 : Nat) : Int)))) (.bool (mayb z)) rfl (by first | (rw [mayb_1 (by assumption)]) | (rw [mayb_2 (by assumption)])) ?_
  exact T_fin () (by first | trivial | omega | (simp; done)) (res1 rfl rfl) [] ⟨by decide, rfl⟩ rfl
 ·
  refine T_slot 5 (.bool (decide (((1 : Nat) : Int) ≤ z))) (.bool false) rfl (congrArg _ hc_1) ?_
  refine T_slot 4 (.bool (decide (((1 : Nat) : Int) ≤ z))) (.bool false) rfl (congrArg _ hc_1) ?_
  have hc_1 := of_decide_eq_false hc_1
  refine L_skip rfl rfl rfl ?_
  refine L_skip rfl rfl rfl ?_
  refine lo rfl (pr_pick_f rfl rfl rfl) rfl rfl ?_
  refine la rfl rfl rfl rfl rfl ?_
  refine L_nil ?_
  refine T_ret ?_
  refine T_slot 2 (.bool false) (.bool (mayb z)) rfl (by first | (rw [mayb_1 (by assumption)]) | (rw [mayb_2 (by assumption)])) ?_
  exact T_fin () (by first | trivial | omega | (simp; done)) (res1 rfl rfl) [] ⟨by decide, rfl⟩ rfl
set_option maxHeartbeats 4000000 in
theorem bsize_f (z : Int) (w : World) (hO : HOK [] w)  : Calls Try.prog 24 [(.int .i64 z)].toArray w (Ret (T := Unit) [] w (fun _ => True) (fun _ => (.int .i64 (bsz z))) (fun _ => [])) := by
 have hF : Wid Fence.wide := wid_wide
 refine enter (c := _) Try.func24 rfl [] _ [] (by rw [Try.ntmps24]; rfl) (own_rds hO rfl) ?_
 rw [Try.ntmps24]
 refine T_re [(0, (.int .i64 z))] (sc rfl sn) ?_
 refine T_he [] [] ⟨by decide, rfl⟩ ?_
 refine Tsr hF rfl ?_
 refine la rfl rfl rfl rfl rfl ?_
 refine L_nil ?_
 refine Tsr hF rfl ?_
 refine lm rfl rfl rfl rfl rfl ?_
 refine lo rfl (pr_min (a := z) (b := ((8 : Nat) : Int)) rfl rfl rfl) rfl rfl ?_
 refine T_slot 4 _ (.int .i64 (min z 8)) rfl (by congr 1; omega) ?_
 refine lo rfl (pr_max (a := ((0 : Nat) : Int)) (b := (min z 8)) rfl rfl rfl) rfl rfl ?_
 refine T_slot 5 _ (.int .i64 (max 0 (min z 8))) rfl (by congr 1; omega) ?_
 refine lo rfl (pr_mul (zw_i64 (z := (((32 : Nat) : Int) * (max 0 (min z 8)))) sd) rfl rfl rfl) rfl rfl ?_
 refine lo rfl (pr_add (zw_i64 (z := ((((32 : Nat) : Int) * (max 0 (min z 8))) + ((16 : Nat) : Int))) sd) rfl rfl rfl) rfl rfl ?_
 refine la rfl rfl rfl rfl rfl ?_
 refine L_nil ?_
 refine T_ret ?_
 refine T_slot 2 _ (.int .i64 (bsz z)) rfl (by rfl) ?_
 exact T_fin () (by first | trivial | omega | (simp; done)) (res1 rfl rfl) [] ⟨by decide, rfl⟩ rfl
set_option maxHeartbeats 4000000 in
theorem rbsize_f (z : Int) (w : World) (hO : HOK [] w)  : Calls Try.prog 25 [(.int .i64 z)].toArray w (Ret (T := Unit) [] w (fun _ => True) (fun _ => (.int .i64 (bsz z))) (fun _ => [])) := by
 have hF : Wid Fence.wide := wid_wide
 refine enter (c := _) Try.func25 rfl [] _ [] (by rw [Try.ntmps25]; rfl) (own_rds hO rfl) ?_
 rw [Try.ntmps25]
 refine T_re [(0, (.int .i64 z))] (sc rfl sn) ?_
 refine T_he [] [] ⟨by decide, rfl⟩ ?_
 refine Tsr hF rfl ?_
 refine la rfl rfl rfl rfl rfl ?_
 refine L_nil ?_
 refine Tsr hF rfl ?_
 refine lm rfl rfl rfl rfl rfl ?_
 refine lo rfl (pr_min (a := z) (b := ((8 : Nat) : Int)) rfl rfl rfl) rfl rfl ?_
 refine T_slot 4 _ (.int .i64 (min z 8)) rfl (by congr 1; omega) ?_
 refine lo rfl (pr_max (a := ((0 : Nat) : Int)) (b := (min z 8)) rfl rfl rfl) rfl rfl ?_
 refine T_slot 5 _ (.int .i64 (max 0 (min z 8))) rfl (by congr 1; omega) ?_
 refine lo rfl (pr_mul (zw_i64 (z := (((32 : Nat) : Int) * (max 0 (min z 8)))) sd) rfl rfl rfl) rfl rfl ?_
 refine lo rfl (pr_add (zw_i64 (z := ((((32 : Nat) : Int) * (max 0 (min z 8))) + ((16 : Nat) : Int))) sd) rfl rfl rfl) rfl rfl ?_
 refine la rfl rfl rfl rfl rfl ?_
 refine L_nil ?_
 refine T_ret ?_
 refine T_slot 2 _ (.int .i64 (bsz z)) rfl (by rfl) ?_
 exact T_fin () (by first | trivial | omega | (simp; done)) (res1 rfl rfl) [] ⟨by decide, rfl⟩ rfl
set_option maxHeartbeats 4000000 in
theorem bpack_f (xs : List Rc) (z : Int) (A : Option Addr) (n : Nat) (c : Nat) (w : World) (hO : HOK [.rd A 4 n c (rcs xs)] w) (hx : xs.length = n) (hn : n ≤ 1000) : Calls Try.prog 9 [(.slice A n c), (.int .i64 z)].toArray w (Ret (T := Option Addr × Nat) [] w (fun ⟨B, e⟩ => True) (fun ⟨B, e⟩ => (.tuple [(.slice B (bpl n z) e), (.int .i64 (((bpe n z) : Nat) : Int))].toArray)) (fun ⟨B, e⟩ => [.row (.slice B (bpl n z) e) 5 1 (bpl n z) ((bpb xs z).map b8)])) := by
 have hrd := rpk_len (Rc.mk true 0#64 0#64 0#64)
 have hF : Wid Fence.wide := wid_wide
 refine enter_m (c := _) Try.func9 rfl [] _ [.rd A 4 n c (rcs xs)] (by rw [Try.ntmps9]; rfl) (own_rds hO rfl) ?_
 rw [Try.ntmps9]
 refine T_re [(0, (.slice A n c)), (1, (.int .i64 z))] (sc rfl (sc rfl sn)) ?_
 refine T_he [0] [.rd A 4 n c (rcs xs)] ⟨by decide, rfl⟩ ?_
 refine Tsr hF rfl ?_
 refine la rfl rfl rfl rfl rfl ?_
 refine la rfl rfl rfl rfl rfl ?_
 refine L_nil ?_
 refine T_seq ?_
 refine T_block ?_
 refine Tsr hF rfl ?_
 refine lm rfl rfl rfl rfl rfl ?_
 refine L_op rfl (op_cn (fun w hw => may_f z w (hok_nil w) ) (enters_of Try.func33 kr rfl) rfl rfl rfl rfl rfl (fun t1 q2 => ?_))
 refine lo rfl (pr_un rfl rfl rfl) rfl rfl ?_
 refine la rfl rfl rfl rfl rfl ?_
 refine L_nil ?_
 refine T_cond (!(mayb z)) rfl (fun hc_3 => ?_) (fun hc_3 => ?_)
 ·
  refine Tsr hF rfl ?_
  refine la rfl rfl rfl rfl rfl ?_
  refine la rfl rfl rfl rfl rfl ?_
  refine L_nil ?_
  refine T_ret ?_
  refine T_slot 4 (.slice none 0 0) (.slice none (bpl n z) 0) rfl (by first | rfl | (rw [bpl_arg (mayb_f (by assumption)), bpb_arg (mayb_f (by assumption))]; rfl) | (rw [bpl_lim hz1 hz2 (by assumption), bpb_lim hz1 hz2 (by omega)]; rfl) | (rw [bpl_ok hq hz1 hz2 (by assumption), bpb_ok hx hq hz1 hz2 (by assumption)]) | (rw [bpe_arg (mayb_f (by assumption))]) | (rw [bpl_arg (mayb_f (by assumption))]) | (rw [bpe_lim hz1 hz2 (by assumption)]) | (rw [bpl_lim hz1 hz2 (by assumption)]) | (rw [bpe_ok hz1 hz2 (by assumption)]) | (rw [bpl_ok hq hz1 hz2 (by assumption)])) ?_
  refine T_slot 5 (.int .i64 ((1 : Nat) : Int)) (.int .i64 (((bpe n z) : Nat) : Int)) rfl (by first | rfl | (rw [bpl_arg (mayb_f (by assumption)), bpb_arg (mayb_f (by assumption))]; rfl) | (rw [bpl_lim hz1 hz2 (by assumption), bpb_lim hz1 hz2 (by omega)]; rfl) | (rw [bpl_ok hq hz1 hz2 (by assumption), bpb_ok hx hq hz1 hz2 (by assumption)]) | (rw [bpe_arg (mayb_f (by assumption))]) | (rw [bpl_arg (mayb_f (by assumption))]) | (rw [bpe_lim hz1 hz2 (by assumption)]) | (rw [bpl_lim hz1 hz2 (by assumption)]) | (rw [bpe_ok hz1 hz2 (by assumption)]) | (rw [bpl_ok hq hz1 hz2 (by assumption)])) ?_
  refine T_nilrow 5 1 ?_
  refine T_as 0 _ (.row (.slice none (bpl n z) 0) 5 1 (bpl n z) ((bpb xs z).map b8)) rfl (by first | rfl | (rw [bpl_arg (mayb_f (by assumption)), bpb_arg (mayb_f (by assumption))]; rfl) | (rw [bpl_lim hz1 hz2 (by assumption), bpb_lim hz1 hz2 (by omega)]; rfl) | (rw [bpl_ok hq hz1 hz2 (by assumption), bpb_ok hx hq hz1 hz2 (by assumption)]) | (rw [bpe_arg (mayb_f (by assumption))]) | (rw [bpl_arg (mayb_f (by assumption))]) | (rw [bpe_lim hz1 hz2 (by assumption)]) | (rw [bpl_lim hz1 hz2 (by assumption)]) | (rw [bpe_ok hz1 hz2 (by assumption)]) | (rw [bpl_ok hq hz1 hz2 (by assumption)])) ?_
  exact T_finM0 (none, 0) (by first | trivial | omega | (simp; done)) (res2 rfl rfl rfl) [0] ⟨by decide, rfl⟩ rfl
 ·
  refine Tsr hF rfl ?_
  refine lm rfl rfl rfl rfl rfl ?_
  obtain ⟨hz1, hz2⟩ := mayb_t (z := z) (by assumption)
  refine lo rfl (pr_len_sl Try.underlying27 rfl rfl) rfl rfl ?_
  refine lm rfl rfl rfl rfl rfl ?_
  refine lo rfl (pr_cmp (bo := .gtr) (k := .i64) (a := ((n : Nat) : Int)) (b := z) (c := decide (z < ((n : Nat) : Int))) rfl rfl rfl rfl rfl) rfl rfl ?_
  refine la rfl rfl rfl rfl rfl ?_
  refine L_nil ?_
  refine T_cond (decide (z < ((n : Nat) : Int))) rfl (fun hc_4 => ?_) (fun hc_4 => ?_)
  ·
   have hc_4 := of_decide_eq_true hc_4
   refine Tsr hF rfl ?_
   refine la rfl rfl rfl rfl rfl ?_
   refine la rfl rfl rfl rfl rfl ?_
   refine L_nil ?_
   refine T_ret ?_
   refine T_slot 4 (.slice none 0 0) (.slice none (bpl n z) 0) rfl (by first | rfl | (rw [bpl_arg (mayb_f (by assumption)), bpb_arg (mayb_f (by assumption))]; rfl) | (rw [bpl_lim hz1 hz2 (by assumption), bpb_lim hz1 hz2 (by omega)]; rfl) | (rw [bpl_ok hq hz1 hz2 (by assumption), bpb_ok hx hq hz1 hz2 (by assumption)]) | (rw [bpe_arg (mayb_f (by assumption))]) | (rw [bpl_arg (mayb_f (by assumption))]) | (rw [bpe_lim hz1 hz2 (by assumption)]) | (rw [bpl_lim hz1 hz2 (by assumption)]) | (rw [bpe_ok hz1 hz2 (by assumption)]) | (rw [bpl_ok hq hz1 hz2 (by assumption)])) ?_
   refine T_slot 5 (.int .i64 ((5 : Nat) : Int)) (.int .i64 (((bpe n z) : Nat) : Int)) rfl (by first | rfl | (rw [bpl_arg (mayb_f (by assumption)), bpb_arg (mayb_f (by assumption))]; rfl) | (rw [bpl_lim hz1 hz2 (by assumption), bpb_lim hz1 hz2 (by omega)]; rfl) | (rw [bpl_ok hq hz1 hz2 (by assumption), bpb_ok hx hq hz1 hz2 (by assumption)]) | (rw [bpe_arg (mayb_f (by assumption))]) | (rw [bpl_arg (mayb_f (by assumption))]) | (rw [bpe_lim hz1 hz2 (by assumption)]) | (rw [bpl_lim hz1 hz2 (by assumption)]) | (rw [bpe_ok hz1 hz2 (by assumption)]) | (rw [bpl_ok hq hz1 hz2 (by assumption)])) ?_
   refine T_nilrow 5 1 ?_
   refine T_as 0 _ (.row (.slice none (bpl n z) 0) 5 1 (bpl n z) ((bpb xs z).map b8)) rfl (by first | rfl | (rw [bpl_arg (mayb_f (by assumption)), bpb_arg (mayb_f (by assumption))]; rfl) | (rw [bpl_lim hz1 hz2 (by assumption), bpb_lim hz1 hz2 (by omega)]; rfl) | (rw [bpl_ok hq hz1 hz2 (by assumption), bpb_ok hx hq hz1 hz2 (by assumption)]) | (rw [bpe_arg (mayb_f (by assumption))]) | (rw [bpl_arg (mayb_f (by assumption))]) | (rw [bpe_lim hz1 hz2 (by assumption)]) | (rw [bpl_lim hz1 hz2 (by assumption)]) | (rw [bpe_ok hz1 hz2 (by assumption)]) | (rw [bpl_ok hq hz1 hz2 (by assumption)])) ?_
   exact T_finM0 (none, 0) (by first | trivial | omega | (simp; done)) (res2 rfl rfl rfl) [0] ⟨by decide, rfl⟩ rfl
  ·
   have hc_4 := of_decide_eq_false hc_4
   refine T_skip ?_
   refine Tsr hF rfl ?_
   refine L_op rfl (op_alloc (z := (.slice none 0 0)) (zs := [(.slice none 0 0)]) kr rfl rfl rfl rfl (fun g5 => ?_))
   obtain ⟨q, hq⟩ : ∃ q : Nat, z = (q : Int) := ⟨z.toNat, by omega⟩
   refine T_slot 1 (.int .i64 z) (.int .i64 ((q : Nat) : Int)) rfl (by rw [hq]) ?_
   refine L_nil ?_
   refine T_seq ?_
   refine Tsr hF rfl ?_
   refine lm rfl rfl rfl rfl rfl ?_
   refine L_op rfl (op_cn (fun w hw => valsr_f A n c w (hok_nil w) ) (enters_of Try.func34 kr rfl) rfl rfl rfl rfl rfl (fun t6 q7 => ?_))
   obtain ⟨g1_8, eg1_8⟩ : ∃ x, x = t6 := ⟨_, rfl⟩
   subst eg1_8
   refine L_nil ?_
   refine T_block ?_
   refine T_tord 0 rfl ?_
   refine T_nilrow 5 1 ?_
   refine T_as 0 _ (.row (.slice none (32 * 0) 0) 5 1 (32 * 0) ((pkl (xs.take 0)).map b8)) rfl (by first | rfl | simp | (congr 1; simp)) ?_
   refine T_as 2 _ (.blk g5 23 [(.slice none (32 * 0) 0)]) rfl (by first | rfl | simp | (congr 1; simp)) ?_
   refine T_range (Θ := Unit) (T := Option Addr × Nat) (Tx := Unit) (cap := [(.pointer (some ⟨g1_8, 0, none⟩))]) (ps := [21]) (valsr_seq xs A n c g1_8 sd sd) rfl (enters_of Try.func57 kr rfl) (fun k ⟨A1, c1⟩ => k ≤ n) (fun k ⟨A1, c1⟩ => [.row (.slice A1 (32 * k) c1) 5 1 (32 * k) ((pkl (xs.take k)).map b8), .blk g5 23 [(.slice A1 (32 * k) c1)], .rd A 4 n c (rcs xs)]) (fun _ => False) (fun _ => []) 0 (none, 0) (by omega) [1, 0, 3] ⟨by decide, rfl⟩ [2, 3] rfl rfl (fun _ _ => rfl) (fun _ => rfl) (fun _ _ => rfl) (fun _ _ => rfl) rfl (fun _ => trivial) ?_ ?_ ?_
   ·
    intro C2 w2 lo2 rs2 l D m k t th rc hrec hk hp
    obtain ⟨A1, c1⟩ := t
    have hp : k ≤ n := hp
    have hk : k < n := hk
    have hrk : (rpk (Rc.mk (rat xs k).d (rat xs k).k (rat xs k).v (rat xs k).s)).length = 32 := rpk_len _
    have hF : Wid (Fence.wide.inRound l) := wid_round l
    refine T_re [(6, (.pointer (some ⟨g5, 0, none⟩))), (21, (.agg [(.bool ((rat xs k).d)), (.int .i64 (i64 (rat xs k).k)), (.int .i64 (i64 (rat xs k).v)), (.int .i64 (i64 (rat xs k).s))].toArray))] (sc rfl (sc rfl sn)) ?_
    refine T_he [0, 1, 2, 3, 4] [.obj l (.loop rc), .obj D (.deferred (some [])), .row (.slice A1 (32 * k) c1) 5 1 (32 * k) ((pkl (xs.take k)).map b8), .blk g5 23 [(.slice A1 (32 * k) c1)], .rd A 4 n c (rcs xs)] ⟨by decide, rfl⟩ ?_
    refine T_reg hF rfl ?_
    refine L_op rfl (op_alloc (z := .agg [(.bool false), (.int .i64 ((0 : Nat) : Int)), (.int .i64 ((0 : Nat) : Int)), (.int .i64 ((0 : Nat) : Int))].toArray) (zs := [(.bool false), (.int .i64 ((0 : Nat) : Int)), (.int .i64 ((0 : Nat) : Int)), (.int .i64 ((0 : Nat) : Int))]) kr rfl rfl rfl rfl (fun g9 => ?_))
    refine L_op rfl (op_sto (n := 4) (vs := [(.bool ((rat xs k).d)), (.int .i64 (i64 (rat xs k).k)), (.int .i64 (i64 (rat xs k).v)), (.int .i64 (i64 (rat xs k).s))]) 0 rfl rfl kr (by simp [Value.oneCell']) kr kr rfl rfl rfl rfl ?_)
    refine L_nil ?_
    refine T_begun 1 rfl hrec ?_
    refine T_block ?_
    refine Tsr hF rfl ?_
    refine lq rfl (ld_agg (ds := [(.bool ((rat xs k).d)), (.int .i64 (i64 (rat xs k).k)), (.int .i64 (i64 (rat xs k).v)), (.int .i64 (i64 (rat xs k).s))]) 1 rfl agg_all Try.underlying43 rfl kr rfl rfl) rfl rfl ?_
    refine L_op rfl (op_cn (fun w hw => rpack_f ((rat xs k).d) ((rat xs k).k) ((rat xs k).v) ((rat xs k).s) w (hok_nil w) ) (enters_of Try.func35 kr rfl) rfl rfl rfl rfl rfl (fun t10 q11 => ?_))
    refine L_op rfl (op_alloc (z := .agg ((List.replicate 32 0#8).map b8).toArray) (zs := ((List.replicate 32 0#8).map b8)) kr rfl rfl rfl rfl (fun g12 => ?_))
    refine L_op rfl (op_sto (n := 32) (vs := ((rpk (Rc.mk ((rat xs k).d) ((rat xs k).k) ((rat xs k).v) ((rat xs k).s))).map b8)) 0 rfl rfl kr (all8_one _) kr sd rfl rfl rfl rfl ?_)
    refine L_nil ?_
    refine T_regD [.blk g12 50 ((rpk (Rc.mk ((rat xs k).d) ((rat xs k).k) ((rat xs k).v) ((rat xs k).s))).map b8), .obj l (.loop { rc with state := .busy }), .blk g9 43 [(.bool ((rat xs k).d)), (.int .i64 (i64 (rat xs k).k)), (.int .i64 (i64 (rat xs k).v)), (.int .i64 (i64 (rat xs k).s))], .obj D (.deferred (some [])), .row (.slice A1 (32 * k) c1) 5 1 (32 * k) ((pkl (xs.take k)).map b8), .blk g5 23 [(.slice A1 (32 * k) c1)], .rd A 4 n c (rcs xs)] 2 4 #[false, false, false, false] hF kr kr ?_
    refine D_pure (i := 1) [0, 1, 2, 3, 4, 5, 6] rfl kr rfl (pr_sla (l := 0) (u := 32) (m := 0) sd sd sd rfl Try.underlying50 (z := 1) kr rfl rfl rfl rfl) (.inr rfl) rfl rfl ?_
    refine D_take (i := 0) [0, 1, 2, 3, 4, 5, 6] rfl kr rfl (ld_blk 5 rfl rfl Try.underlying23 rfl rfl rfl) rfl rfl rfl ?_
    refine D_one 2 _ rfl kr rfl (op_append (z := (b8 (0#8))) (size := 1) (bytes := 1) 4 rfl Try.underlying23 kr kr (by decide) (src_full (z := 1) 0 rfl sd sd sd) (all8_one _) sd sd rfl rfl rfl rfl rfl (fun A13 C14 => ?_))
    refine T_as 0 _ (.row (.slice A13 (32 * k + 32) C14) 5 1 (32 * k + 32) (((pkl (xs.take k)) ++ (rpk (Rc.mk ((rat xs k).d) ((rat xs k).k) ((rat xs k).v) ((rat xs k).s)))).map b8)) rfl (by first | rfl | (congr 1; simp; done) | (simp only [List.map_append]; rfl) | (rw [List.map_append]; rfl)) ?_
    refine D_past kr ?_
    refine D_one 3 _ rfl kr rfl (op_store (vs := [(.slice A13 (32 * k + 32) C14)]) (cs' := [(.slice A13 (32 * k + 32) C14)]) 5 rfl rfl kr (one_one rfl) (by first | decide | simp | exact Nat.le_refl _) rfl rfl rfl rfl rfl ?_)
    refine D_past kr ?_
    refine D_done kr ?_
    refine T_as 1 _ (.row (.slice A13 (32 * (k + 1)) C14) 5 1 (32 * (k + 1)) ((pkl (xs.take (k + 1))).map b8)) rfl (by rw [pkl_take _ _ (by omega)]; rfl) ?_
    refine T_as 1 _ (.blk g5 23 [(.slice A13 (32 * (k + 1)) C14)]) rfl (by congr 1) ?_
    exact T_on (A13, C14) (by omega) [3, 5, 1, 0, 6] ⟨by decide, rfl⟩
   ·
    intro D t hp
    obtain ⟨A1, c1⟩ := t
    have hp : n ≤ n := hp
    refine T_re [(0, (.slice A n c)), (1, (.int .i64 ((q : Nat) : Int))), (6, (.pointer (some ⟨g5, 0, none⟩)))] (sc rfl (sc rfl (sc rfl sn))) ?_
    refine T_he [0, 1, 2, 3] [.obj D (.deferred (some [])), .row (.slice A1 (32 * n) c1) 5 1 (32 * n) ((pkl (xs.take n)).map b8), .blk g5 23 [(.slice A1 (32 * n) c1)], .rd A 4 n c (rcs xs)] ⟨by decide, rfl⟩ ?_
    refine T_seq ?_
    refine Tsr hF rfl ?_
    refine lm rfl rfl rfl rfl rfl ?_
    refine lm rfl rfl rfl rfl rfl ?_
    refine lo rfl (pr_len_sl Try.underlying27 rfl rfl) rfl rfl ?_
    refine lo rfl (pr_sub (ns_i64 (a := q) (b := n) sd sd) rfl rfl rfl) rfl rfl ?_
    refine lm rfl rfl rfl rfl rfl ?_
    refine L_nil ?_
    refine T_block ?_
    refine T_as 1 _ (.row (.slice A1 (32 * (n + 0)) c1) 5 1 (32 * (n + 0)) ((pkl (xs ++ List.replicate 0 rdead)).map b8)) rfl (by rw [List.take_of_length_le (by omega)]; simp) ?_
    refine T_as 2 _ (.blk g5 23 [(.slice A1 (32 * (n + 0)) c1)]) rfl (by simp) ?_
    refine T_loop (T := Nat × Option Addr × Nat) (fun ⟨j, A2, c2⟩ => j ≤ q - n) (fun ⟨j, A2, c2⟩ => [(6, (.pointer (some ⟨g5, 0, none⟩))), (30, (.int .i64 ((q - n : Nat) : Int))), (31, (.int .i64 ((j : Nat) : Int)))]) (fun ⟨j, A2, c2⟩ => [.obj D (.deferred (some [])), .row (.slice A2 (32 * (n + j)) c2) 5 1 (32 * (n + j)) ((pkl (xs ++ List.replicate j rdead)).map b8), .blk g5 23 [(.slice A2 (32 * (n + j)) c2)], .rd A 4 n c (rcs xs)]) (fun ⟨j, A2, c2⟩ => q - n - j) (0, A1, c1) (by first | trivial | ((try dsimp only); first | omega | (refine ⟨?_, ?_⟩ <;> omega) | (refine ⟨?_, ?_, ?_⟩ <;> omega) | (simp; done) | (simp; omega))) (sc rfl (sc rfl (sc rfl sn))) [2, 1, 0, 3] ⟨by decide, rfl⟩ ?_
    rintro ⟨j, A2, c2⟩ hp
    have hp : j ≤ q - n := hp
    refine T_re [(6, (.pointer (some ⟨g5, 0, none⟩))), (30, (.int .i64 ((q - n : Nat) : Int))), (31, (.int .i64 ((j : Nat) : Int)))] (sc rfl (sc rfl (sc rfl sn))) ?_
    refine T_he [0, 1, 2, 3] [.obj D (.deferred (some [])), .row (.slice A2 (32 * (n + j)) c2) 5 1 (32 * (n + j)) ((pkl (xs ++ List.replicate j rdead)).map b8), .blk g5 23 [(.slice A2 (32 * (n + j)) c2)], .rd A 4 n c (rcs xs)] ⟨by decide, rfl⟩ ?_
    refine Tsr hF rfl ?_
    refine lo rfl (pr_cmp (bo := .lss) (nc_lt (a := j) (b := q - n)) rfl rfl rfl rfl) rfl rfl ?_
    refine L_nil ?_
    refine T_seq ?_
    refine T_cond (decide (j < q - n)) rfl (fun hc_15 => ?_) (fun hc_15 => ?_)
    ·
     have hc_15 := of_decide_eq_true hc_15
     refine T_skip ?_
     refine T_seq ?_
     refine T_block ?_
     refine Tsr hF rfl ?_
     refine L_op rfl (op_cn (fun w hw => dead_f  w (hok_nil w) ) (enters_of Try.func36 kr rfl) rfl rfl rfl rfl rfl (fun t16 q17 => ?_))
     refine L_op rfl (op_cn (fun w hw => rpack_f true (0#64) (0#64) (0#64) w (hok_nil w) ) (enters_of Try.func35 kr rfl) rfl rfl rfl rfl rfl (fun t18 q19 => ?_))
     refine L_op rfl (op_alloc (z := .agg ((List.replicate 32 0#8).map b8).toArray) (zs := ((List.replicate 32 0#8).map b8)) kr rfl rfl rfl rfl (fun g20 => ?_))
     refine L_op rfl (op_sto (n := 32) (vs := ((rpk (Rc.mk true (0#64) (0#64) (0#64))).map b8)) 0 rfl rfl kr (all8_one _) kr sd rfl rfl rfl rfl ?_)
     refine L_nil ?_
     refine T_regD [.blk g20 50 ((rpk (Rc.mk true (0#64) (0#64) (0#64))).map b8), .obj D (.deferred (some [])), .row (.slice A2 (32 * (n + j)) c2) 5 1 (32 * (n + j)) ((pkl (xs ++ List.replicate j rdead)).map b8), .blk g5 23 [(.slice A2 (32 * (n + j)) c2)], .rd A 4 n c (rcs xs)] 2 4 #[false, false, false, false] hF kr kr ?_
     refine D_pure (i := 1) [0, 1, 2, 3, 4] rfl kr rfl (pr_sla (l := 0) (u := 32) (m := 0) sd sd sd rfl Try.underlying50 (z := 1) kr rfl rfl rfl rfl) (.inr rfl) rfl rfl ?_
     refine D_take (i := 0) [0, 1, 2, 3, 4] rfl kr rfl (ld_blk 3 rfl rfl Try.underlying23 rfl rfl rfl) rfl rfl rfl ?_
     refine D_one 2 _ rfl kr rfl (op_append (z := (b8 (0#8))) (size := 1) (bytes := 1) 2 rfl Try.underlying23 kr kr (by decide) (src_full (z := 1) 0 rfl sd sd sd) (all8_one _) sd sd rfl rfl rfl rfl rfl (fun A21 C22 => ?_))
     refine T_as 0 _ (.row (.slice A21 (32 * (n + j) + 32) C22) 5 1 (32 * (n + j) + 32) (((pkl (xs ++ List.replicate j rdead)) ++ (rpk (Rc.mk true (0#64) (0#64) (0#64)))).map b8)) rfl (by first | rfl | (congr 1; simp; done) | (simp only [List.map_append]; rfl) | (rw [List.map_append]; rfl)) ?_
     refine D_past kr ?_
     refine D_one 3 _ rfl kr rfl (op_store (vs := [(.slice A21 (32 * (n + j) + 32) C22)]) (cs' := [(.slice A21 (32 * (n + j) + 32) C22)]) 3 rfl rfl kr (one_one rfl) (by first | decide | simp | exact Nat.le_refl _) rfl rfl rfl rfl rfl ?_)
     refine D_past kr ?_
     refine D_done kr ?_
     refine T_reg hF rfl ?_
     refine lo rfl (pr_add (na_i64 (a := j) (b := 1) sd) rfl rfl rfl) rfl rfl ?_
     refine lm rfl rfl rfl rfl rfl ?_
     refine L_nil ?_
     refine T_as 1 _ (.row (.slice A21 (32 * (n + (j + 1))) C22) 5 1 (32 * (n + (j + 1))) ((pkl (xs ++ List.replicate (j + 1) rdead)).map b8)) rfl (by rw [pkl_rep]; rfl) ?_
     refine T_as 1 _ (.blk g5 23 [(.slice A21 (32 * (n + (j + 1))) C22)]) rfl (by congr 1) ?_
     exact T_again (j + 1, A21, C22) (by first | trivial | ((try dsimp only); first | omega | (refine ⟨?_, ?_⟩ <;> omega) | (refine ⟨?_, ?_, ?_⟩ <;> omega) | (simp; done) | (simp; omega))) (by first | trivial | ((try dsimp only); first | omega | (refine ⟨?_, ?_⟩ <;> omega) | (refine ⟨?_, ?_, ?_⟩ <;> omega) | (simp; done) | (simp; omega))) (sc rfl (sc rfl (sc rfl sn))) [3, 1, 0, 4] ⟨by decide, rfl⟩
    ·
     have hc_15 := of_decide_eq_false hc_15
     refine T_exit rfl ?_
     obtain rfl : q - n = j := by omega
     refine Tsr hF rfl ?_
     refine lq rfl (ld_blk 2 rfl rfl Try.underlying23 rfl rfl rfl) rfl rfl ?_
     refine la rfl rfl rfl rfl rfl ?_
     refine la rfl rfl rfl rfl rfl ?_
     refine L_nil ?_
     refine T_ret ?_
     refine T_slot 4 (.slice A2 (32 * (n + (q - n))) c2) (.slice A2 (bpl n z) c2) rfl (by first | rfl | (rw [bpl_arg (mayb_f (by assumption)), bpb_arg (mayb_f (by assumption))]; rfl) | (rw [bpl_lim hz1 hz2 (by assumption), bpb_lim hz1 hz2 (by omega)]; rfl) | (rw [bpl_ok hq hz1 hz2 (by assumption), bpb_ok hx hq hz1 hz2 (by assumption)]) | (rw [bpe_arg (mayb_f (by assumption))]) | (rw [bpl_arg (mayb_f (by assumption))]) | (rw [bpe_lim hz1 hz2 (by assumption)]) | (rw [bpl_lim hz1 hz2 (by assumption)]) | (rw [bpe_ok hz1 hz2 (by assumption)]) | (rw [bpl_ok hq hz1 hz2 (by assumption)])) ?_
     refine T_slot 5 (.int .i64 ((0 : Nat) : Int)) (.int .i64 (((bpe n z) : Nat) : Int)) rfl (by first | rfl | (rw [bpl_arg (mayb_f (by assumption)), bpb_arg (mayb_f (by assumption))]; rfl) | (rw [bpl_lim hz1 hz2 (by assumption), bpb_lim hz1 hz2 (by omega)]; rfl) | (rw [bpl_ok hq hz1 hz2 (by assumption), bpb_ok hx hq hz1 hz2 (by assumption)]) | (rw [bpe_arg (mayb_f (by assumption))]) | (rw [bpl_arg (mayb_f (by assumption))]) | (rw [bpe_lim hz1 hz2 (by assumption)]) | (rw [bpl_lim hz1 hz2 (by assumption)]) | (rw [bpe_ok hz1 hz2 (by assumption)]) | (rw [bpl_ok hq hz1 hz2 (by assumption)])) ?_
     refine T_as 1 _ (.row (.slice A2 (bpl n z) c2) 5 1 (bpl n z) ((bpb xs z).map b8)) rfl (by first | rfl | (rw [bpl_arg (mayb_f (by assumption)), bpb_arg (mayb_f (by assumption))]; rfl) | (rw [bpl_lim hz1 hz2 (by assumption), bpb_lim hz1 hz2 (by omega)]; rfl) | (rw [bpl_ok hq hz1 hz2 (by assumption), bpb_ok hx hq hz1 hz2 (by assumption)]) | (rw [bpe_arg (mayb_f (by assumption))]) | (rw [bpl_arg (mayb_f (by assumption))]) | (rw [bpe_lim hz1 hz2 (by assumption)]) | (rw [bpl_lim hz1 hz2 (by assumption)]) | (rw [bpe_ok hz1 hz2 (by assumption)]) | (rw [bpl_ok hq hz1 hz2 (by assumption)])) ?_
     exact T_finM 1 rfl (A2, c2) (by first | trivial | omega | (simp; done)) (res2 rfl rfl rfl) [0] ⟨by decide, rfl⟩ rfl
   ·
    exact fun D t hq => hq.elim
end Go.Proofs.Ytlplpmkdebemnaa
namespace Go.Proofs.Ytlplpmkdebemnaa.Fw
set_option linter.unusedVariables false
set_option linter.unusedSimpArgs false
open Go.RowKit Bv
/-- **A range over a function whose body may return.** -/
theorem T_rangeR {E : Bool} {Θ T Tx : Type} {n : Nat} {P : Program} {N : Nat} {C : List Nat} {w0 : World} {lo : Nat} {rs : Nat → Prop} {ds : List Deferred} {s : List (Nat × Value)} {h : List HA} {nrm ret : Jd} {ex : List (Nat × Jd)} {g : Operand} {ps : List Nat} {assign body : Code} {gf : FuncId} {cap : List Value} {rds : List HA} {nv : Nat} {xs : Nat → Θ → List Value} {hd : Nat → Θ → List HA}
    (hseq : SeqX E P gf cap rds nv xs hd) (hg : ev s g = some (.func (.func gf) #[] cap.toArray)) (hen : Go.Proofs.Enters P gf)
    (p : Nat → T → Prop) (η : Nat → T → List HA) (q : Tx → Prop) (ηx : Tx → List HA) (t0 : T) (h0 : p 0 t0) (is : List Nat) (hi : Pick h is (η 0 t0)) (js : List Nat) (hj : js.map (fun j => (h[j]?).map HA.asrd) = rds.map some) (hjr : js.all (fun j => match h[j]? with | some x => x.asrd.bs.isNone && x.ids.isEmpty | none => false) = true)
    (hηn' : ∀ k t, (η k t).all HA.plainB = true) (hηx' : ∀ t, (ηx t).all HA.plainB = true) (hdr : ∀ k θ, (hd k θ).all rdB = true) (hps : ∀ k θ, (xs k θ).length = ps.length) (hpN : ps.all (fun p => Nat.blt p N) = true)
    (hrs : ∀ r, rs r) (hround : ∀ (C2 : List Nat) (w2 : World) (lo2 : Nat) (rs2 : Nat → Prop) (l D m k : Nat) (t : T) (θ : Θ) (rec : Loop), rec.state = .ready → k < nv → p k t →
      Tr ⟨N, C2, w2, lo2, rs2, []⟩ (slotsOf ps (xs k θ) ++ s) (hd k θ ++ (.obj l (.loop rec) :: .obj D (.deferred (some [])) :: η k t))
        (Wp (Fence.wide.inRound l) m P ⟨Begun l m P ⟨N, C2, w2, lo2, rs2, []⟩ rec ⟨RoundOn l D ⟨N, C2, w2, lo2, rs2, []⟩ rec (p (k + 1)) (η (k + 1)), RoundOn l D ⟨N, C2, w2, lo2, rs2, []⟩ rec q ηx, []⟩ body, fun _ _ => False, []⟩ assign))
    (hdone : ∀ (D : Nat) (t : T), p nv t → Tr ⟨N, C, w0, lo, rs, { target := .collected D, args := #[] } :: ds⟩ s (.obj D (.deferred (some [])) :: η nv t) nrm)
    (hstop : ∀ (D : Nat) (t : Tx), q t → Tr ⟨N, C, w0, lo, rs, { target := .collected D, args := #[] } :: ds⟩ s (.obj D (.deferred (some [])) :: ηx t) (Wp Fence.wide n P ⟨nrm, ret, ex⟩ (.ret)))
    (hE : E = true → ∀ t, ¬ p nv t := by intro h; cases h) :
    Tr ⟨N, C, w0, lo, rs, ds⟩ s h (Wp Fence.wide n P ⟨nrm, ret, ex⟩ (.rangeFunc g ps.toArray assign body)) := fun a w st => by
  refine wpIn_rangeFunc fun fn hfn => ?_
  rw [show Fence.wide.round = none from rfl]
  have hηn : ∀ k t, ∀ x ∈ η k t, x.bs = none := fun k t x hx => plain_bs (List.all_eq_true.1 (hηn' k t) x hx)
  have hηx : ∀ t, ∀ x ∈ ηx t, x.bs = none := fun t x hx => plain_bs (List.all_eq_true.1 (hηx' t) x hx)
  let R0 : LoopState → Option Code → Loop := fun st pe => { state := st, pending := pe, fn, tmps := a.tmps, params := ps.toArray, assign, body, defers := w.heap.size }
  let X1 : Cx := ⟨N, C, w0, lo, rs, []⟩
  let a1 : Act := { tmps := a.tmps, defers := [] }
  have stA : ∀ {h' : List HA} {w' : World}, St ⟨N, C, w0, lo, rs, ds⟩ s h' a w' → St X1 s h' a1 w' := fun st => ⟨st.sz, rfl, st.sl, st.kp, st.ok, st.ll, st.fr, st.nd, st.dj, st.iv, st.ib, st.rk⟩
  let lI := w.heap.size + 1
  let D := w.heap.size
  let W1 := (w.alloc (.deferred (some []))).alloc (.loop (R0 .ready none))
  let hp := fun (r : Loop) (l : List HA) => HA.obj lI (.loop r) :: .obj D (.deferred (some [])) :: l
  have st0 : St X1 s (hp (R0 .ready none) (η 0 t0)) a1 W1 := by
    have h1 := (stA (st.pick hi)).newobj (.deferred (some []))
    have h2 := h1.newobj (.loop (R0 .ready none))
    rw [show (w.alloc (Obj.deferred (some []))).heap.size = lI from World.size_alloc _ _] at h2
    exact h2
  let J : JJ := fun k O R W => ∃ t, p k t ∧ St X1 s (hp (R0 .ready none) (η k t)) a1 W ∧ O = (hp (R0 .ready none) (η k t)).flatMap HA.ids ∧ R = (hp (R0 .ready none) (η k t)).flatMap HA.rids
  let Jx : JX := fun O R W => ∃ t, q t ∧ St X1 s (hp (R0 .done (some (.ret))) (ηx t)) a1 W ∧ O = (hp (R0 .done (some (.ret))) (ηx t)).flatMap HA.ids ∧ R = (hp (R0 .done (some (.ret))) (ηx t)).flatMap HA.rids
  have hpn : ∀ r l, (∀ x ∈ l, x.bs = none) → ∀ x ∈ hp r l, x.bs = none := by
    intro r l hl x hx
    rcases List.mem_cons.1 hx with rfl | hx
    · rfl
    · rcases List.mem_cons.1 hx with rfl | hx
      · rfl
      · exact hl x hx
  have hW1s : w.heap.size ≤ W1.heap.size := by show w.heap.size ≤ ((w.alloc _).alloc _).heap.size; simp; omega
  have hw0 : w0.heap.size ≤ W1.heap.size := Nat.le_trans st.kp.same.size hW1s
  refine ⟨lI, [{ target := .collected D, args := #[] }], W1, { target := .fn (.func gf) cap.toArray, args := #[.func (.yield lI) #[] #[]] }, W1, gf, (.func (.yield lI) #[] #[] :: cap).toArray, W1, ?_, ?_, fun f' _ => trivial, ?_, fun hh => absurd hh (by simp [Fence.wide]), ?_⟩
  · exact run_enterLoop_outer _ _ _ _ _
  · have hev : a.eval (.const (.func (.yield lI) #[] #[])) = .func (.yield lI) #[] #[] := rfl
    simp only [resolve, rangeCall, st.ag g _ hg]
    simp [Deferred.ofValue, hev]
  · have := hen (#[.func (.yield lI) #[] #[]] ++ cap.toArray) W1
    have e : (#[Value.func (.yield lI) #[] #[]] ++ cap.toArray) = (Value.func (.yield lI) #[] #[] :: cap).toArray := by simp
    rw [e] at this
    simp only [invoke]
    rw [e]; exact this
  · have hlow : ∀ {r : Loop} {l : List HA} {W : World}, St X1 s (hp r l) a1 W → ∀ i ∈ (hp r l).flatMap HA.ids ++ (hp r l).flatMap HA.rids, i < W.heap.size := by
      intro r l W hst i hin
      rcases List.mem_append.1 hin with h1 | h1 <;> obtain ⟨x, hx, hxi⟩ := List.mem_flatMap.1 h1
      · exact HA.lt (hst.ok x hx) i (List.mem_append.2 (.inl hxi))
      · exact HA.lt (hst.ok x hx) i (List.mem_append.2 (.inr hxi))
    have hrW : HOK rds W1 := by
      intro x hx
      have : some x ∈ js.map (fun j => (h[j]?).map HA.asrd) := by rw [hj]; exact List.mem_map.2 ⟨x, hx, rfl⟩
      obtain ⟨j, hjm, hje⟩ := List.mem_map.1 this
      obtain ⟨y, hy, rfl⟩ := Option.map_eq_some_iff.1 hje
      have hyh := List.mem_of_getElem? hy
      have hb := List.all_eq_true.1 hjr j hjm
      simp only [hy, Bool.and_eq_true, Option.isNone_iff_eq_none] at hb
      have hyb : y.bs = none := by have := hb.1; cases y <;> first | rfl | (cases this; done)
      refine asrd_ok (HA.ok_keep (st.ok y hyh) ⟨rfl, rfl, rfl, hW1s⟩ (fun i hin => ?_) (fun B hB => by rw [hyb] at hB; cases hB))
      have hlt := HA.lt (st.ok y hyh) i hin
      show ((w.alloc _).alloc _).heap[i]? = _
      rw [Below.heap_alloc _ _ _ (by simp; omega), Below.heap_alloc _ _ _ hlt]
    have hrO : ∀ x ∈ rds, ∀ r ∈ x.rids, r ∉ (hp (R0 .ready none) (η 0 t0)).flatMap HA.ids := by
      intro x hx r hr hin
      have : some x ∈ js.map (fun j => (h[j]?).map HA.asrd) := by rw [hj]; exact List.mem_map.2 ⟨x, hx, rfl⟩
      obtain ⟨j, hjm, hje⟩ := List.mem_map.1 this
      obtain ⟨y, hy, rfl⟩ := Option.map_eq_some_iff.1 hje
      have hyh := List.mem_of_getElem? hy
      rw [asrd_rids] at hr
      have hlt := HA.lt (st.ok y hyh) r (List.mem_append.2 (.inr hr))
      obtain ⟨z, hz, hzr⟩ := List.mem_flatMap.1 hin
      rcases List.mem_cons.1 hz with rfl | hz
      · simp [HA.ids] at hzr; omega
      · rcases List.mem_cons.1 hz with rfl | hz
        · simp [HA.ids] at hzr; omega
        · have hzh : z ∈ h := by
            have : some z ∈ is.map (h[·]?) := by rw [hi.2]; exact List.mem_map.2 ⟨z, hz, rfl⟩
            obtain ⟨i, _, hi'⟩ := List.mem_map.1 this
            exact List.mem_of_getElem? hi'
          exact st.dj y hyh z hzh r hr hzr
    refine (hseq lI J Jx W1 _ _ (n - 1) hrW hrO ?_ ?_ (hlow st0) ?_ (fun hEt O R W ⟨t, ht, _⟩ => hE hEt t ht) ⟨t0, h0, st0, rfl, rfl⟩).mono ?_
    · rintro k O R W W' ⟨t, ht, hst, rfl, rfl⟩ hs hb hin
      exact ⟨t, ht, hst.stab hw0 (hpn _ _ (hηn k t)) hs hb hin, rfl, rfl⟩
    · rintro O R W W' ⟨t, ht, hst, rfl, rfl⟩ hs hb hin
      exact ⟨t, ht, hst.stab hw0 (hpn _ _ (hηx t)) hs hb hin, rfl, rfl⟩
    · rintro k θ O R Wy m hk ⟨t, ht, hst, rfl, rfl⟩ hdk hdO
      have hlw : Wy.heap[lI]? = some (.loop (R0 .ready none)) := hst.ok _ (List.mem_cons_self ..)
      have hy := run_yield (P := P) (args := (xs k θ).toArray) hlw (by show (xs k θ).toArray.size = ps.toArray.size; simp [hps k θ])
      refine ⟨fn, _, assign, body, hy, roundIn_of_wpIn hfn ?_⟩
      have hzip : ((R0 .ready none).params.zip (xs k θ).toArray).foldl (fun tmps (x : Nat × Value) => tmps.setIfInBounds x.1 x.2) (R0 .ready none).tmps = (ps.zip (xs k θ)).foldl (fun (t : Array Value) (q : Nat × Value) => t.setIfInBounds q.1 q.2) a.tmps := by
        show (ps.toArray.zip (xs k θ).toArray).foldl _ a.tmps = _
        rw [List.zip_toArray]
        simp
      let O := (hp (R0 .ready none) (η k t)).flatMap HA.ids
      let R := (hp (R0 .ready none) (η k t)).flatMap HA.rids
      let rs2 : Nat → Prop := fun r => r ∈ O ∨ r ∈ R ∨ r ∈ (hd k θ).flatMap HA.rids
      let X2 : Cx := ⟨N, O, Wy, Wy.heap.size, rs2, []⟩
      have hOC : ∀ i ∈ O, i ∈ C ∨ lo ≤ i := fun i hi => by
        obtain ⟨x, hx, hxi⟩ := List.mem_flatMap.1 hi
        exact hst.fr x hx i (HA.ids_frs hxi)
      have st2 : St X2 s (hp (R0 .ready none) (η k t)) a1 Wy :=
        ⟨hst.sz, rfl, hst.sl, Keep.refl _ _, hst.ok, ⟨Nat.le_refl _, Nat.le_refl _⟩, fun x hx c hc => ?_, hst.nd, hst.dj, hst.iv, fun x hx B hB => (by rw [hpn _ _ (hηn k t) x hx] at hB; cases hB), ⟨fun c hc => .inl hc, fun x hx r hr => .inl (.inr (.inl (List.mem_flatMap.2 ⟨x, hx, hr⟩)))⟩⟩
      case refine_1 =>
        refine .inl (List.mem_flatMap.2 ⟨x, hx, ?_⟩)
        rcases List.mem_cons.1 hx with rfl | hx
        · exact hc
        · rcases List.mem_cons.1 hx with rfl | hx
          · exact hc
          · rwa [plain_frs (List.all_eq_true.1 (hηn' k t) x hx)] at hc
      have stR : St X2 (slotsOf ps (xs k θ) ++ s) (hd k θ ++ hp (R0 .ready none) (η k t)) { tmps := (ps.zip (xs k θ)).foldl (fun (t : Array Value) (q : Nat × Value) => t.setIfInBounds q.1 q.2) a.tmps, defers := [] } Wy := by
        have h1 := st2.addrd (hd k θ) hdk (hdr k θ) (hpn _ _ (hηn k t)) hdO (fun x hx r hr => .inr (.inr (List.mem_flatMap.2 ⟨x, hx, hr⟩)))
        refine ⟨by rw [foldl_size]; exact hst.sz, rfl, slotsOf_spec ps (xs k θ) a.tmps s ?_ hst.sl, h1.kp, h1.ok, h1.ll, h1.fr, h1.nd, h1.dj, h1.iv, h1.ib, h1.rk⟩
        intro p' hp'
        have := List.all_eq_true.1 hpN p' hp'
        have h3 : p' < N := Nat.le_of_ble_eq_true this
        have h4 : a.tmps.size = N := hst.sz
        omega
      have hw := hround O Wy Wy.heap.size rs2 lI D m k t θ (R0 .ready none) rfl hk ht _ _ stR
      have hw2 : assign.wpIn (Fence.wide.inRound lI) m P (Exit.then (fun a₁ w₁ => ∃ w₂, (Instr.beginRound lI).run P w₁ = .ok () w₂ ∧ body.wpIn (Fence.wide.inRound lI) m P (roundPost P lI (YP J Jx k (hd k θ) O R Wy)) a₁ w₂) (fun _ _ _ => False)) { tmps := (ps.zip (xs k θ)).foldl (fun (t : Array Value) (q : Nat × Value) => t.setIfInBounds q.1 q.2) a.tmps, defers := [] } Wy := by
        refine wpIn_mono hw (fun e a2 w2 hq => ?_)
        cases e with
        | ret => exact hq.elim
        | exit i => obtain ⟨_, hj2, _⟩ := hq; cases hj2
        | goto _ => exact hq.elim
        | panic _ => exact hq.elim
        | outgrown => exact hq.elim
        | normal =>
          obtain ⟨w3, hb3, hbody⟩ := hq
          refine ⟨w3, hb3, wpIn_mono hbody (fun e a4 w4 hq4 => ?_)⟩
          have finish : ∀ (l' : List HA) (jump : Option Code) (r'' : Loop), St X2 [] (hp (R0 .busy none) l') a4 w4 → (r'' = { R0 .busy none with state := if jump.isNone then .ready else .done, pending := jump }) → (∀ x ∈ l', x.bs = none) →
              ∃ w', (Instr.endRound lI jump).run P w4 = .ok (.bool jump.isNone) w' ∧ St X1 s (hp r'' l') a1 w' ∧ (∀ i ∈ (hp r'' l').flatMap HA.ids, i ∈ O ∨ Wy.heap.size ≤ i) ∧ (∀ i ∈ (hp r'' l').flatMap HA.rids, i ∈ O ∨ i ∈ R ∨ i ∈ (hd k θ).flatMap HA.rids ∨ Wy.heap.size ≤ i) ∧ Keep O Wy w' := by
            intro l' jump r'' hst4 hr'' hl'
            have hl4 : w4.heap[lI]? = some (.loop (R0 .busy none)) := hst4.ok _ (List.mem_cons_self ..)
            refine ⟨_, run_endRound jump hl4, ?_⟩
            subst hr''
            have h5 := hst4.putobj (.loop { R0 .busy none with state := if jump.isNone then .ready else .done, pending := jump })
            have hid : ∀ x ∈ hp { R0 .busy none with state := if jump.isNone then .ready else .done, pending := jump } l', ∀ c ∈ x.frs, c ∈ O ∨ Wy.heap.size ≤ c := fun x hx c hc => h5.fr x hx c hc
            refine ⟨⟨hst.sz, rfl, hst.sl, hst.kp.trans h5.kp (fun i hi => (hOC i hi).imp id (fun h => Nat.le_trans st.ll.1 h)), h5.ok, ⟨st.ll.1, Nat.le_trans hst.ll.2 h5.kp.same.size⟩, fun x hx c hc => (hid x hx c hc).elim (fun h => hOC c h) (fun h => .inr (Nat.le_trans hst.ll.2 h)), h5.nd, h5.dj, fun x hx q hq => (by rw [os_of_bs (hpn _ _ hl' x hx)] at hq; cases hq), fun x hx B hB => (by rw [hpn _ _ hl' x hx] at hB; cases hB), ⟨hst.rk.1, fun x hx r hr => .inl (hrs r)⟩⟩, ?_, ?_, h5.kp⟩
            · intro i hi
              obtain ⟨x, hx, hxi⟩ := List.mem_flatMap.1 hi
              exact hid x hx i (HA.ids_frs hxi)
            · intro i hi
              obtain ⟨x, hx, hxi⟩ := List.mem_flatMap.1 hi
              rcases h5.rk.2 x hx i hxi with (h6 | h6 | h6) | h6
              · exact .inl h6
              · exact .inr (.inl h6)
              · exact .inr (.inr (.inl h6))
              · exact .inr (.inr (.inr h6))
          cases e with
          | normal =>
            obtain ⟨t', ht', hst4⟩ := hq4
            obtain ⟨w', hr, hst5, h6, h7, h8⟩ := finish _ none (R0 .ready none) hst4 rfl (hηn _ _)
            exact ⟨_, w', hr, _, _, h6, h7, h8, fun i hi => hlow hst5 i hi, .inl ⟨rfl, t', ht', hst5, rfl, rfl⟩⟩
          | ret =>
            obtain ⟨t', ht', hst4⟩ := hq4
            obtain ⟨w', hr, hst5, h6, h7, h8⟩ := finish _ (some .ret) (R0 .done (some .ret)) hst4 rfl (hηx _)
            exact ⟨_, w', hr, _, _, h6, h7, h8, fun i hi => hlow hst5 i hi, .inr ⟨rfl, t', ht', hst5, rfl, rfl⟩⟩
          | exit i => obtain ⟨_, hj2, _⟩ := hq4; cases hj2
          | goto _ => exact hq4.elim
          | panic _ => exact hq4.elim
          | outgrown => exact hq4.elim
      have e2 : (fun (tmps : Array Value) (x : Nat × Value) => match x with | (t, a) => tmps.setIfInBounds t a) = (fun (tmps : Array Value) (x : Nat × Value) => tmps.setIfInBounds x.1 x.2) := rfl
      rw [← hzip] at hw2
      exact hw2
    · rintro e W3 ⟨⟨v, rfl⟩, O', R', hJ⟩
      rcases hJ with ⟨t, ht, hst, -, -⟩ | ⟨t, ht, hst, -, -⟩
      · have hl3 : W3.heap[lI]? = some (.loop (R0 .ready none)) := hst.ok _ (List.mem_cons_self ..)
        have hr := run_endLoop (P := P) hl3 (by simp [R0])
        refine ⟨none, _, hr, ?_⟩
        have h5 := hst.putobj (.loop { R0 .ready none with state := .exhausted })
        have h6 : St X1 s (.obj D (.deferred (some [])) :: η nv t) a1 _ := St.drop (out := [_]) h5
        exact hdone D t ht _ _ ⟨h6.sz, by show _ ++ _ = _; rw [st.df]; rfl, h6.sl, h6.kp, h6.ok, h6.ll, h6.fr, h6.nd, h6.dj, h6.iv, h6.ib, h6.rk⟩
      · have hl3 : W3.heap[lI]? = some (.loop (R0 .done (some (.ret)))) := hst.ok _ (List.mem_cons_self ..)
        have hr := run_endLoop (P := P) hl3 (by simp [R0])
        refine ⟨some (.ret), _, hr, ?_⟩
        have h5 := hst.putobj (.loop { R0 .done (some (.ret)) with state := .exhausted })
        have h6 : St X1 s (.obj D (.deferred (some [])) :: ηx t) a1 _ := St.drop (out := [_]) h5
        exact hstop D t ht _ _ ⟨h6.sz, by show _ ++ _ = _; rw [st.df]; rfl, h6.sl, h6.kp, h6.ok, h6.ll, h6.fr, h6.nd, h6.dj, h6.iv, h6.ib, h6.rk⟩
/-- Results that both lie in cells. -/
theorem rescc {P : Program} {s : List (Nat × Value)} {h : List HA} {fn : Func} {p u g g2 : Nat} {ty ty2 e1 e2 : TypeId} {v v2 : Value} {td td2 : TypeDesc} (i j : Nat) (hi : h[i]? = some (.blk g e1 [v])) (hj : h[j]? = some (.blk g2 e2 [v2])) (hr : fn.results = #[.cell p ty, .cell u ty2]) (hp : s.lookup p = some (.pointer (some ⟨g, 0, none⟩))) (hu : s.lookup u = some (.pointer (some ⟨g2, 0, none⟩)))
    (ht : P.underlying ty = some td) (hn : isAggT td = false) (ht2 : P.underlying ty2 = some td2) (hn2 : isAggT td2 = false) : ResV P fn s h (.tuple #[v, v2]) := fun tmps hs w hw => by
  have hb : w.heap[g]? = some (.cells #[v] e1 (0, 0)) := hw _ (List.mem_of_getElem? hi)
  have hb2 : w.heap[g2]? = some (.cells #[v2] e2 (0, 0)) := hw _ (List.mem_of_getElem? hj)
  have h1 : tmps[p]?.getD undef = .pointer (some ⟨g, 0, none⟩) := by simp [hs p _ hp]
  have h2 : tmps[u]?.getD undef = .pointer (some ⟨g2, 0, none⟩) := by simp [hs u _ hu]
  have l1 : (loadVar ty ⟨g, 0, none⟩).run P w = .ok v w := by
    have hagg : (isAgg ty).run P w = .ok false w := by unfold isAgg; rw [Sem.run_bind, run_underlying ht w]; cases td <;> simp_all [isAggT]
    simp only [loadVar, Sem.run_bind, hagg, Result.andThen_ok]
    simp [World.cell?, hb]
  have l2 : (loadVar ty2 ⟨g2, 0, none⟩).run P w = .ok v2 w := by
    have hagg : (isAgg ty2).run P w = .ok false w := by unfold isAgg; rw [Sem.run_bind, run_underlying ht2 w]; cases td2 <;> simp_all [isAggT]
    simp only [loadVar, Sem.run_bind, hagg, Result.andThen_ok]
    simp [World.cell?, hb2]
  simp [results, hr, h1, h2, asAddr, l1, l2]
end Go.Proofs.Ytlplpmkdebemnaa.Fw
