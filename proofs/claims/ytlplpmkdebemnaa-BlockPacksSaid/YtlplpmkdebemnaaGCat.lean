/- slices.Concat, slices.Values of slices of bytes, by facts. Conditions: all lengths together below 10^14. -/
import Derived.Test.YtlplpmkdebemnaaGSeq
import Derived.Test.YtlplpmkdebemnaaProg
import Derived.Test.YtlplpmkdebemnaaFwU
namespace Go.Proofs.Ytlplpmkdebemnaa
set_option linter.unusedVariables false
set_option linter.unusedSimpArgs false
set_option linter.unnecessarySimpa false
set_option maxRecDepth 100000
open Go.RowKit Bv Fw

set_option maxHeartbeats 4000000 in
theorem grow_f (n : Nat) (w : World) (hO : HOK [] w) (hn : n ≤ 100000000000000) : Calls Try.prog 99 [(.slice none 0 0), (.int .i64 ((n : Nat) : Int))].toArray w (Ret (T := Option Addr × Nat) [] w (fun ⟨B, d⟩ => True) (fun ⟨B, d⟩ => (.slice B 0 d)) (fun ⟨B, d⟩ => [.row (.slice B 0 d) 5 1 0 []])) := by
 have hF : Wid Fence.wide := wid_wide
 refine enter (c := _) Try.func99 rfl [] _ [] (by rw [Try.ntmps99]; rfl) (own_rds hO rfl) ?_
 rw [Try.ntmps99]
 refine T_re [(0, (.slice none 0 0)), (1, (.int .i64 ((n : Nat) : Int)))] (sc rfl (sc rfl sn)) ?_
 refine T_he [] [] ⟨by decide, rfl⟩ ?_
 refine Tsr hF rfl ?_
 refine la rfl rfl rfl rfl rfl ?_
 refine L_nil ?_
 refine T_seq ?_
 refine Tsr hF rfl ?_
 refine lm rfl rfl rfl rfl rfl ?_
 refine lo rfl (pr_cmp (bo := .lss) (nc_lt (a := n) (b := 0)) rfl rfl rfl rfl) rfl rfl ?_
 refine L_nil ?_
 refine T_cond_f rfl ?_
 refine T_skip ?_
 refine T_seq ?_
 refine Tsr hF rfl ?_
 refine lm rfl rfl rfl rfl rfl ?_
 refine lm rfl rfl rfl rfl rfl ?_
 refine lo rfl (pr_cap_sl Try.underlying23 rfl rfl) rfl rfl ?_
 refine lm rfl rfl rfl rfl rfl ?_
 refine lo rfl (pr_len_sl Try.underlying23 rfl rfl) rfl rfl ?_
 refine lo rfl (pr_sub (ns_i64 (a := 0) (b := 0) sd sd) rfl rfl rfl) rfl rfl ?_
 refine lo rfl (pr_sub (ns_i64 (a := n) (b := 0 - 0) sd sd) rfl rfl rfl) rfl rfl ?_
 refine la rfl rfl rfl rfl rfl ?_
 refine L_nil ?_
 refine Tsr hF rfl ?_
 refine lm rfl rfl rfl rfl rfl ?_
 refine lo rfl (pr_cmp (bo := .gtr) (nc_lt (a := 0) (b := n - (0 - 0))) rfl rfl rfl rfl) rfl rfl ?_
 refine L_nil ?_
 refine T_cond (decide (0 < n - (0 - 0))) rfl (fun hc_1 => ?_) (fun hc_1 => ?_)
 ·
  have hc_1 := of_decide_eq_true hc_1
  refine T_reg hF rfl ?_
  refine lm rfl rfl rfl rfl rfl ?_
  refine lm rfl rfl rfl rfl rfl ?_
  refine lo rfl (pr_cap_sl Try.underlying23 rfl rfl) rfl rfl ?_
  refine T_nilrow 5 1 ?_
  refine L_op rfl (op_reslice (u := 0) 0 rfl sd Try.underlying23 kr rfl rfl rfl rfl rfl ?_)
  refine T_as 0 _ (.row (.slice none 0 0) 5 1 0 []) rfl (by first | rfl | (congr 1; simp [List.map_take])) ?_
  refine lm rfl rfl rfl rfl rfl ?_
  refine L_op rfl (op_append0 (z := (b8 (0#8))) (bytes := 1) (m := n - (0 - 0)) 0 rfl Try.underlying23 Try.underlying3 kr rfl rfl sd sd rfl rfl rfl rfl rfl (fun A2 C3 => ?_))
  refine T_as 0 _ (.row (.slice A2 (0 + (n - (0 - 0))) C3) 5 1 (0 + (n - (0 - 0))) ((List.replicate (n - (0 - 0)) 0#8).map b8)) rfl (by first | rfl | (congr 1; simp)) ?_
  refine lm rfl rfl rfl rfl rfl ?_
  refine lo rfl (pr_len_sl Try.underlying23 rfl rfl) rfl rfl ?_
  refine L_op rfl (op_reslice (u := 0) 0 rfl sd Try.underlying23 kr rfl rfl rfl rfl rfl ?_)
  refine T_as 0 _ (.row (.slice A2 0 C3) 5 1 0 []) rfl (by first | rfl | (congr 1; simp [List.map_take])) ?_
  refine la rfl rfl rfl rfl rfl ?_
  refine L_nil ?_
  refine Tsr hF rfl ?_
  refine lm rfl rfl rfl rfl rfl ?_
  refine la rfl rfl rfl rfl rfl ?_
  refine L_nil ?_
  refine T_ret ?_
  exact T_fin (A2, C3) (by first | trivial | omega | (simp; done)) (res1 rfl rfl) [0] ⟨by decide, rfl⟩ rfl
 ·
  have hc_1 := of_decide_eq_false hc_1
  refine T_skip ?_
  refine Tsr hF rfl ?_
  refine lm rfl rfl rfl rfl rfl ?_
  refine la rfl rfl rfl rfl rfl ?_
  refine L_nil ?_
  refine T_ret ?_
  refine T_nilrow 5 1 ?_
  exact T_fin (none, 0) (by first | trivial | omega | (simp; done)) (res1 rfl rfl) [0] ⟨by decide, rfl⟩ rfl
set_option maxHeartbeats 4000000 in
theorem concat_f (Q : List Pt) (A : Option Addr) (n : Nat) (c : Nat) (w : World) (hO : HOK [.rd A 1 n c (Q.map Pt.sl), .all Q] w) (hn : Q.length = n) (hs : (catp Q).length ≤ 100000000000000) (hn2 : n ≤ 100000000000000) : Calls Try.prog 91 [(.slice A n c)].toArray w (Ret (T := Option Addr × Nat) [] w (fun ⟨B, d⟩ => True) (fun ⟨B, d⟩ => (.slice B ((catp Q).length) d)) (fun ⟨B, d⟩ => [.row (.slice B ((catp Q).length) d) 5 1 ((catp Q).length) ((catp Q).map b8)])) := by
 have hF : Wid Fence.wide := wid_wide
 refine enter (c := _) Try.func91 rfl [] _ [.rd A 1 n c (Q.map Pt.sl), .all Q] (by rw [Try.ntmps91]; rfl) (own_rds hO rfl) ?_
 rw [Try.ntmps91]
 refine T_re [(0, (.slice A n c))] (sc rfl sn) ?_
 refine T_he [0, 1] [.rd A 1 n c (Q.map Pt.sl), .all Q] ⟨by decide, rfl⟩ ?_
 refine Tsr hF rfl ?_
 refine la rfl rfl rfl rfl rfl ?_
 refine L_nil ?_
 refine Tsr hF rfl ?_
 refine la rfl rfl rfl rfl rfl ?_
 refine L_nil ?_
 refine T_seq ?_
 refine Tsr hF rfl ?_
 refine lm rfl rfl rfl rfl rfl ?_
 refine lo rfl (pr_len_sl Try.underlying127 rfl rfl) rfl rfl ?_
 refine lm rfl rfl rfl rfl rfl ?_
 refine L_nil ?_
 refine T_block ?_
 refine T_slot 3 (.int .i64 ((0 : Nat) : Int)) (.int .i64 (((catp (Q.take 0)).length : Nat) : Int)) rfl (rfl) ?_
 refine T_loop (T := Nat) (fun k => k ≤ n) (fun k => [(0, (.slice A n c)), (3, (.int .i64 (((catp (Q.take k)).length : Nat) : Int))), (9, (.slice A n c)), (10, (.int .i64 ((n : Nat) : Int))), (11, (.int .i64 ((k : Nat) : Int)))]) (fun k => [.rd A 1 n c (Q.map Pt.sl), .all Q]) (fun k => n - k) 0 (by first | trivial | ((try dsimp only); first | omega | (refine ⟨?_, ?_⟩ <;> omega) | (refine ⟨?_, ?_, ?_⟩ <;> omega) | (simp; done) | (simp; omega))) (sc rfl (sc rfl (sc rfl (sc rfl (sc rfl sn))))) [0, 1] ⟨by decide, rfl⟩ ?_
 rintro k hp
 have hp : k ≤ n := hp
 have hle := catp_le Q k
 have hle1 := catp_le Q (k + 1)
 have hct : k < n → (catp (Q.take (k + 1))).length = (catp (Q.take k)).length + (pat Q k).xs.length := fun h => by rw [catp_take (by omega), List.length_append]
 refine T_re [(0, (.slice A n c)), (3, (.int .i64 (((catp (Q.take k)).length : Nat) : Int))), (9, (.slice A n c)), (10, (.int .i64 ((n : Nat) : Int))), (11, (.int .i64 ((k : Nat) : Int)))] (sc rfl (sc rfl (sc rfl (sc rfl (sc rfl sn))))) ?_
 refine T_he [0, 1] [.rd A 1 n c (Q.map Pt.sl), .all Q] ⟨by decide, rfl⟩ ?_
 refine Tsr hF rfl ?_
 refine lo rfl (pr_cmp (bo := .lss) (nc_lt (a := k) (b := n)) rfl rfl rfl rfl) rfl rfl ?_
 refine L_nil ?_
 refine T_seq ?_
 refine T_cond (decide (k < n)) rfl (fun hc_1 => ?_) (fun hc_1 => ?_)
 ·
  have hc_1 := of_decide_eq_true hc_1
  refine T_skip ?_
  refine T_seq ?_
  refine T_block ?_
  refine Tsr hF rfl ?_
  refine lo rfl (pr_ixs1 (j := k) (src_none (src_rd 0 rfl)) sd Try.underlying127 kr rfl rfl rfl) rfl rfl ?_
  refine lq rfl (ld_src (m := k) (src_rd 0 rfl) (pat_get sd) Try.underlying23 rfl rfl rfl) rfl rfl ?_
  refine T_ofall 1 rfl (pat_mem (L := Q) (j := k) sd) (fun hl_2 hm_3 => ?_)
  refine la rfl rfl rfl rfl rfl ?_
  refine L_nil ?_
  refine Tsr hF rfl ?_
  refine lm rfl rfl rfl rfl rfl ?_
  refine lm rfl rfl rfl rfl rfl ?_
  refine lo rfl (pr_len_sl Try.underlying23 rfl rfl) rfl rfl ?_
  refine lo rfl (pr_add (na_i64 (a := (catp (Q.take k)).length) (b := (pat Q k).n) sd) rfl rfl rfl) rfl rfl ?_
  refine la rfl rfl rfl rfl rfl ?_
  refine L_nil ?_
  refine Tsr hF rfl ?_
  refine lm rfl rfl rfl rfl rfl ?_
  refine lo rfl (pr_cmp (bo := .lss) (nc_lt (a := (catp (Q.take k)).length + ((pat Q k).n)) (b := 0)) rfl rfl rfl rfl) rfl rfl ?_
  refine L_nil ?_
  refine T_cond_f rfl ?_
  refine T_skip ?_
  refine T_reg hF rfl ?_
  refine lo rfl (pr_add (na_i64 (a := k) (b := 1) sd) rfl rfl rfl) rfl rfl ?_
  refine lm rfl rfl rfl rfl rfl ?_
  refine L_nil ?_
  refine T_slot 3 _ (.int .i64 (((catp (Q.take (k + 1))).length : Nat) : Int)) rfl (by rw [hct (by assumption)]; congr 2; omega) ?_
  exact T_again (k + 1) (by first | trivial | ((try dsimp only); first | omega | (refine ⟨?_, ?_⟩ <;> omega) | (refine ⟨?_, ?_, ?_⟩ <;> omega) | (simp; done) | (simp; omega))) (by first | trivial | ((try dsimp only); first | omega | (refine ⟨?_, ?_⟩ <;> omega) | (refine ⟨?_, ?_, ?_⟩ <;> omega) | (simp; done) | (simp; omega))) (sc rfl (sc rfl (sc rfl (sc rfl (sc rfl sn))))) [1, 2] ⟨by decide, rfl⟩
 ·
  have hc_1 := of_decide_eq_false hc_1
  refine T_exit rfl ?_
  obtain rfl : n = k := by omega
  refine Tsr hF rfl ?_
  refine lm rfl rfl rfl rfl rfl ?_
  refine L_op rfl (op_cn (fun w hw => grow_f ((catp (Q.take n)).length) w (hok_nil w) sd) (enters_of Try.func99 kr rfl) rfl rfl rfl rfl rfl (fun t4 q5 => ?_))
  obtain ⟨B6, d7⟩ := t4
  refine la rfl rfl rfl rfl rfl ?_
  refine L_nil ?_
  refine T_seq ?_
  refine Tsr hF rfl ?_
  refine lm rfl rfl rfl rfl rfl ?_
  refine lo rfl (pr_len_sl Try.underlying127 rfl rfl) rfl rfl ?_
  refine lm rfl rfl rfl rfl rfl ?_
  refine L_nil ?_
  refine T_block ?_
  refine T_slot 6 (.slice B6 0 d7) (.slice B6 ((catp (Q.take 0)).length) d7) rfl (rfl) ?_
  refine T_as 0 _ (.row (.slice B6 ((catp (Q.take 0)).length) d7) 5 1 ((catp (Q.take 0)).length) ((catp (Q.take 0)).map b8)) rfl (rfl) ?_
  refine T_loop (T := Nat × Option Addr × Nat) (fun ⟨k, A1, c1⟩ => k ≤ n) (fun ⟨k, A1, c1⟩ => [(6, (.slice A1 ((catp (Q.take k)).length) c1)), (25, (.slice A n c)), (26, (.int .i64 ((n : Nat) : Int))), (27, (.int .i64 ((k : Nat) : Int)))]) (fun ⟨k, A1, c1⟩ => [.row (.slice A1 ((catp (Q.take k)).length) c1) 5 1 ((catp (Q.take k)).length) ((catp (Q.take k)).map b8), .rd A 1 n c (Q.map Pt.sl), .all Q]) (fun ⟨k, A1, c1⟩ => n - k) (0, B6, d7) (by first | trivial | ((try dsimp only); first | omega | (refine ⟨?_, ?_⟩ <;> omega) | (refine ⟨?_, ?_, ?_⟩ <;> omega) | (simp; done) | (simp; omega))) (sc rfl (sc rfl (sc rfl (sc rfl sn)))) [0, 1, 2] ⟨by decide, rfl⟩ ?_
  rintro ⟨k, A1, c1⟩ hp
  have hp : k ≤ n := hp
  have hle := catp_le Q k
  have hle1 := catp_le Q (k + 1)
  have hct : k < n → (catp (Q.take (k + 1))).length = (catp (Q.take k)).length + (pat Q k).xs.length := fun h => by rw [catp_take (by omega), List.length_append]
  refine T_re [(6, (.slice A1 ((catp (Q.take k)).length) c1)), (25, (.slice A n c)), (26, (.int .i64 ((n : Nat) : Int))), (27, (.int .i64 ((k : Nat) : Int)))] (sc rfl (sc rfl (sc rfl (sc rfl sn)))) ?_
  refine T_he [0, 1, 2] [.row (.slice A1 ((catp (Q.take k)).length) c1) 5 1 ((catp (Q.take k)).length) ((catp (Q.take k)).map b8), .rd A 1 n c (Q.map Pt.sl), .all Q] ⟨by decide, rfl⟩ ?_
  refine Tsr hF rfl ?_
  refine lo rfl (pr_cmp (bo := .lss) (nc_lt (a := k) (b := n)) rfl rfl rfl rfl) rfl rfl ?_
  refine L_nil ?_
  refine T_seq ?_
  refine T_cond (decide (k < n)) rfl (fun hc_8 => ?_) (fun hc_8 => ?_)
  ·
   have hc_8 := of_decide_eq_true hc_8
   refine T_skip ?_
   refine T_seq ?_
   refine T_block ?_
   refine Tsr hF rfl ?_
   refine lo rfl (pr_ixs1 (j := k) (src_none (src_rd 1 rfl)) sd Try.underlying127 kr rfl rfl rfl) rfl rfl ?_
   refine lq rfl (ld_src (m := k) (src_rd 1 rfl) (pat_get sd) Try.underlying23 rfl rfl rfl) rfl rfl ?_
   refine T_ofall 2 rfl (pat_mem (L := Q) (j := k) sd) (fun hl_9 hm_10 => ?_)
   refine la rfl rfl rfl rfl rfl ?_
   refine L_nil ?_
   refine T_reg hF rfl ?_
   refine lm rfl rfl rfl rfl rfl ?_
   refine lm rfl rfl rfl rfl rfl ?_
   refine L_op rfl (op_append (z := (b8 (0#8))) (size := 1) (bytes := 1) 1 rfl Try.underlying23 kr kr (by decide) (src_rd 0 rfl) (all8_one _) sd sd rfl rfl rfl rfl rfl (fun A11 C12 => ?_))
   refine T_as 0 _ (.row (.slice A11 ((catp (Q.take k)).length + ((pat Q k).n)) C12) 5 1 ((catp (Q.take k)).length + ((pat Q k).n)) (((catp (Q.take k)) ++ (pat Q k).xs).map b8)) rfl (by first | rfl | (congr 1; simp; done) | (simp only [List.map_append]; rfl) | (rw [List.map_append]; rfl)) ?_
   refine la rfl rfl rfl rfl rfl ?_
   refine L_nil ?_
   refine T_reg hF rfl ?_
   refine lo rfl (pr_add (na_i64 (a := k) (b := 1) sd) rfl rfl rfl) rfl rfl ?_
   refine lm rfl rfl rfl rfl rfl ?_
   refine L_nil ?_
   refine T_slot 6 (.slice A11 ((catp (Q.take k)).length + ((pat Q k).n)) C12) (.slice A11 ((catp (Q.take (k + 1))).length) C12) rfl (by rw [hct (by assumption)]; congr 1; omega) ?_
   refine T_as 0 _ (.row (.slice A11 ((catp (Q.take (k + 1))).length) C12) 5 1 ((catp (Q.take (k + 1))).length) ((catp (Q.take (k + 1))).map b8)) rfl (by rw [catp_take (by omega), List.length_append]; congr 1 <;> simp <;> omega) ?_
   exact T_again (k + 1, A11, C12) (by first | trivial | ((try dsimp only); first | omega | (refine ⟨?_, ?_⟩ <;> omega) | (refine ⟨?_, ?_, ?_⟩ <;> omega) | (simp; done) | (simp; omega))) (by first | trivial | ((try dsimp only); first | omega | (refine ⟨?_, ?_⟩ <;> omega) | (refine ⟨?_, ?_, ?_⟩ <;> omega) | (simp; done) | (simp; omega))) (sc rfl (sc rfl (sc rfl (sc rfl sn)))) [0, 2, 3] ⟨by decide, rfl⟩
  ·
   have hc_8 := of_decide_eq_false hc_8
   refine T_exit rfl ?_
   obtain rfl : n = k := by omega
   refine Tsr hF rfl ?_
   refine lm rfl rfl rfl rfl rfl ?_
   refine la rfl rfl rfl rfl rfl ?_
   refine L_nil ?_
   refine T_ret ?_
   refine T_slot 2 (.slice A1 ((catp (Q.take n)).length) c1) (.slice A1 ((catp Q).length) c1) rfl (by rw [List.take_of_length_le (by omega)]) ?_
   refine T_as 0 _ (.row (.slice A1 ((catp Q).length) c1) 5 1 ((catp Q).length) ((catp Q).map b8)) rfl (by rw [List.take_of_length_le (by omega)]) ?_
   exact T_fin (A1, c1) (by first | trivial | omega | (simp; done)) (res1 rfl rfl) [0] ⟨by decide, rfl⟩ rfl
end Go.Proofs.Ytlplpmkdebemnaa
