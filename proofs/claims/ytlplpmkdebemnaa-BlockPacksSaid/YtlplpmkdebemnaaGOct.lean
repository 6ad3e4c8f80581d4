/- What the functions of package octet answer, by facts. Conditions: counts up to 8, lengths far below the greatest. -/
import Derived.Test.YtlplpmkdebemnaaOctet
import Derived.Test.YtlplpmkdebemnaaProg
import Derived.Test.YtlplpmkdebemnaaFwU
namespace Go.Proofs.Ytlplpmkdebemnaa
set_option linter.unusedVariables false
set_option linter.unusedSimpArgs false
set_option linter.unnecessarySimpa false
set_option maxRecDepth 100000
open Go.RowKit Bv Fw

/-- The first k bytes of a number of n bytes, the highest first. -/
def highb (v : BitVec 64) (n : Nat) : Nat → List (BitVec 8)
  | 0 => []
  | k + 1 => highb v n k ++ [(v >>> (8 * (n - 1 - k))).setWidth 8]
theorem highb_len (v : BitVec 64) (n : Nat) : ∀ k, (highb v n k).length = k
  | 0 => rfl
  | k + 1 => by rw [highb, List.length_append, highb_len v n k]; rfl
/-- The number of the first k bytes, the highest first. -/
def high (xs : List (BitVec 8)) : Nat → BitVec 64
  | 0 => 0#64
  | k + 1 => high xs k <<< 8 ||| (ath xs k).setWidth 64
set_option maxHeartbeats 4000000 in
theorem putLow_f (zs : List (BitVec 8)) (v : BitVec 64) (k : Nat) (A : Option Addr) (n : Nat) (c : Nat) (w : World) (hO : HA.ok w (.row (.slice A n c) 5 1 n (zs.map b8))) (hk : k ≤ 8) (hn : n + 8 ≤ 100000000000000) : Calls Try.prog 60 [(.slice A n c), (b64 v), (.int .i64 ((k : Nat) : Int))].toArray w (Ret (T := Option Addr × Nat) (HA.ids (.row (.slice A n c) 5 1 n (zs.map b8))) w (fun ⟨B, d⟩ => True) (fun ⟨B, d⟩ => (.slice B (n + k) d)) (fun ⟨B, d⟩ => [.row (.slice B (n + k) d) 5 1 (n + k) ((zs ++ lowb v k).map b8)])) := by
 have hF : Wid Fence.wide := wid_wide
 refine enter (c := _) Try.func60 rfl (HA.ids (.row (.slice A n c) 5 1 n (zs.map b8))) _ [.row (.slice A n c) 5 1 n (zs.map b8)] (by rw [Try.ntmps60]; rfl) (own_one hO rfl rfl) ?_
 rw [Try.ntmps60]
 refine T_re [(0, (.slice A n c)), (1, (b64 v)), (2, (.int .i64 ((k : Nat) : Int)))] (sc rfl (sc rfl (sc rfl sn))) ?_
 refine T_he [0] [.row (.slice A n c) 5 1 n (zs.map b8)] ⟨by decide, rfl⟩ ?_
 refine Tsr hF rfl ?_
 refine la rfl rfl rfl rfl rfl ?_
 refine L_nil ?_
 refine T_seq ?_
 refine Tsr hF rfl ?_
 refine lm rfl rfl rfl rfl rfl ?_
 refine lm rfl rfl rfl rfl rfl ?_
 refine L_nil ?_
 refine T_block ?_
 refine T_slot 0 (.slice A n c) (.slice A (n + 0) c) rfl (by first | rfl | (congr 2; omega) | (simp; omega)) ?_
 refine T_as 0 _ (.row (.slice A (n + 0) c) 5 1 (n + 0) ((zs ++ lowb v 0).map b8)) rfl (by simp [lowb]) ?_
 refine T_loop (T := Nat × Option Addr × Nat) (fun ⟨j, A1, c1⟩ => j ≤ k) (fun ⟨j, A1, c1⟩ => [(0, (.slice A1 (n + j) c1)), (1, (b64 v)), (8, (.int .i64 ((k : Nat) : Int))), (9, (.int .i64 ((j : Nat) : Int)))]) (fun ⟨j, A1, c1⟩ => [.row (.slice A1 (n + j) c1) 5 1 (n + j) ((zs ++ lowb v j).map b8)]) (fun ⟨j, A1, c1⟩ => k - j) (0, A, c) (by first | trivial | ((try dsimp only); first | omega | (refine ⟨?_, ?_⟩ <;> omega) | (refine ⟨?_, ?_, ?_⟩ <;> omega) | (simp; done) | (simp; omega))) (sc rfl (sc rfl (sc rfl (sc rfl sn)))) [0] ⟨by decide, rfl⟩ ?_
 rintro ⟨j, A1, c1⟩ hp
 have hp : j ≤ k := hp
 refine T_re [(0, (.slice A1 (n + j) c1)), (1, (b64 v)), (8, (.int .i64 ((k : Nat) : Int))), (9, (.int .i64 ((j : Nat) : Int)))] (sc rfl (sc rfl (sc rfl (sc rfl sn)))) ?_
 refine T_he [0] [.row (.slice A1 (n + j) c1) 5 1 (n + j) ((zs ++ lowb v j).map b8)] ⟨by decide, rfl⟩ ?_
 refine Tsr hF rfl ?_
 refine lo rfl (pr_cmp (bo := .lss) (nc_lt (a := j) (b := k)) rfl rfl rfl rfl) rfl rfl ?_
 refine L_nil ?_
 refine T_seq ?_
 refine T_cond (decide (j < k)) rfl (fun hc_1 => ?_) (fun hc_1 => ?_)
 ·
  have hc_1 := of_decide_eq_true hc_1
  refine T_skip ?_
  refine T_seq ?_
  refine T_block ?_
  refine Tsr hF rfl ?_
  refine lm rfl rfl rfl rfl rfl ?_
  refine la rfl rfl rfl rfl rfl ?_
  refine L_nil ?_
  refine T_reg hF rfl ?_
  refine lm rfl rfl rfl rfl rfl ?_
  refine lm rfl rfl rfl rfl rfl ?_
  refine lm rfl rfl rfl rfl rfl ?_
  refine lo rfl (pr_mul (nm_i64 (a := 8) (b := j) sd) rfl rfl rfl) rfl rfl ?_
  refine lo rfl (pr_shift (sh_shr64 v _ (8 * j)) rfl rfl rfl rfl) rfl rfl ?_
  refine lo rfl (pr_cv (cv64_8 _) Try.underlying30 Try.underlying5 rfl rfl) rfl rfl ?_
  refine L_op rfl (op_bslice (e := 5) (zs := [(b8 ((v >>> (8 * j)).setWidth 8))]) (qs := [(0, (b8 ((v >>> (8 * j)).setWidth 8)))]) (fun _ => by kernel_rfl) rfl rfl rfl rfl (fun g2 => ?_))
  refine L_op rfl (op_append (z := (b8 (0#8))) (size := 1) (bytes := 1) 1 rfl Try.underlying23 kr kr (by decide) (src_full (z := 1) 0 rfl rfl sd sd) (by simp [Value.oneCell']) sd sd rfl rfl rfl rfl rfl (fun A3 C4 => ?_))
  refine T_as 0 _ (.row (.slice A3 (n + j + 1) C4) 5 1 (n + j + 1) ((zs ++ lowb v j ++ [((v >>> (8 * j)).setWidth 8)]).map b8)) rfl (by first | rfl | (congr 1; simp; done) | (simp only [List.map_append]; rfl) | (rw [List.map_append]; rfl)) ?_
  refine la rfl rfl rfl rfl rfl ?_
  refine L_nil ?_
  refine T_reg hF rfl ?_
  refine lo rfl (pr_add (na_i64 (a := j) (b := 1) sd) rfl rfl rfl) rfl rfl ?_
  refine lm rfl rfl rfl rfl rfl ?_
  refine L_nil ?_
  refine T_slot 0 (.slice A3 (n + j + 1) C4) (.slice A3 (n + (j + 1)) C4) rfl (by first | rfl | (congr 2; omega) | (simp; omega)) ?_
  refine T_as 0 _ (.row (.slice A3 (n + (j + 1)) C4) 5 1 (n + (j + 1)) ((zs ++ lowb v (j + 1)).map b8)) rfl (by simp [lowb] <;> omega) ?_
  exact T_again (j + 1, A3, C4) (by first | trivial | ((try dsimp only); first | omega | (refine ⟨?_, ?_⟩ <;> omega) | (refine ⟨?_, ?_, ?_⟩ <;> omega) | (simp; done) | (simp; omega))) (by first | trivial | ((try dsimp only); first | omega | (refine ⟨?_, ?_⟩ <;> omega) | (refine ⟨?_, ?_, ?_⟩ <;> omega) | (simp; done) | (simp; omega))) (sc rfl (sc rfl (sc rfl (sc rfl sn)))) [0] ⟨by decide, rfl⟩
 ·
  have hc_1 := of_decide_eq_false hc_1
  refine T_exit rfl ?_
  refine Tsr hF rfl ?_
  refine lm rfl rfl rfl rfl rfl ?_
  refine la rfl rfl rfl rfl rfl ?_
  refine L_nil ?_
  refine T_ret ?_
  obtain rfl : k = j := by omega
  exact T_fin (A1, c1) (by first | trivial | omega | (simp; done)) (res1 rfl rfl) [0] ⟨by decide, rfl⟩ rfl
set_option maxHeartbeats 4000000 in
theorem putHigh_f (zs : List (BitVec 8)) (v : BitVec 64) (k : Nat) (A : Option Addr) (n : Nat) (c : Nat) (w : World) (hO : HA.ok w (.row (.slice A n c) 5 1 n (zs.map b8))) (hk : k ≤ 8) (hn : n + 8 ≤ 100000000000000) : Calls Try.prog 109 [(.slice A n c), (b64 v), (.int .i64 ((k : Nat) : Int))].toArray w (Ret (T := Option Addr × Nat) (HA.ids (.row (.slice A n c) 5 1 n (zs.map b8))) w (fun ⟨B, d⟩ => True) (fun ⟨B, d⟩ => (.slice B (n + k) d)) (fun ⟨B, d⟩ => [.row (.slice B (n + k) d) 5 1 (n + k) ((zs ++ highb v k k).map b8)])) := by
 have hF : Wid Fence.wide := wid_wide
 refine enter (c := _) Try.func109 rfl (HA.ids (.row (.slice A n c) 5 1 n (zs.map b8))) _ [.row (.slice A n c) 5 1 n (zs.map b8)] (by rw [Try.ntmps109]; rfl) (own_one hO rfl rfl) ?_
 rw [Try.ntmps109]
 refine T_re [(0, (.slice A n c)), (1, (b64 v)), (2, (.int .i64 ((k : Nat) : Int)))] (sc rfl (sc rfl (sc rfl sn))) ?_
 refine T_he [0] [.row (.slice A n c) 5 1 n (zs.map b8)] ⟨by decide, rfl⟩ ?_
 refine Tsr hF rfl ?_
 refine la rfl rfl rfl rfl rfl ?_
 refine L_nil ?_
 refine T_seq ?_
 refine Tsr hF rfl ?_
 refine lm rfl rfl rfl rfl rfl ?_
 refine lm rfl rfl rfl rfl rfl ?_
 refine L_nil ?_
 refine T_block ?_
 refine T_slot 0 (.slice A n c) (.slice A (n + 0) c) rfl (by first | rfl | (congr 2; omega) | (simp; omega)) ?_
 refine T_as 0 _ (.row (.slice A (n + 0) c) 5 1 (n + 0) ((zs ++ highb v k 0).map b8)) rfl (by simp [highb]) ?_
 refine T_loop (T := Nat × Option Addr × Nat) (fun ⟨j, A1, c1⟩ => j ≤ k) (fun ⟨j, A1, c1⟩ => [(0, (.slice A1 (n + j) c1)), (1, (b64 v)), (2, (.int .i64 ((k : Nat) : Int))), (8, (.int .i64 ((k : Nat) : Int))), (9, (.int .i64 ((j : Nat) : Int)))]) (fun ⟨j, A1, c1⟩ => [.row (.slice A1 (n + j) c1) 5 1 (n + j) ((zs ++ highb v k j).map b8)]) (fun ⟨j, A1, c1⟩ => k - j) (0, A, c) (by first | trivial | ((try dsimp only); first | omega | (refine ⟨?_, ?_⟩ <;> omega) | (refine ⟨?_, ?_, ?_⟩ <;> omega) | (simp; done) | (simp; omega))) (sc rfl (sc rfl (sc rfl (sc rfl (sc rfl sn))))) [0] ⟨by decide, rfl⟩ ?_
 rintro ⟨j, A1, c1⟩ hp
 have hp : j ≤ k := hp
 refine T_re [(0, (.slice A1 (n + j) c1)), (1, (b64 v)), (2, (.int .i64 ((k : Nat) : Int))), (8, (.int .i64 ((k : Nat) : Int))), (9, (.int .i64 ((j : Nat) : Int)))] (sc rfl (sc rfl (sc rfl (sc rfl (sc rfl sn))))) ?_
 refine T_he [0] [.row (.slice A1 (n + j) c1) 5 1 (n + j) ((zs ++ highb v k j).map b8)] ⟨by decide, rfl⟩ ?_
 refine Tsr hF rfl ?_
 refine lo rfl (pr_cmp (bo := .lss) (nc_lt (a := j) (b := k)) rfl rfl rfl rfl) rfl rfl ?_
 refine L_nil ?_
 refine T_seq ?_
 refine T_cond (decide (j < k)) rfl (fun hc_1 => ?_) (fun hc_1 => ?_)
 ·
  have hc_1 := of_decide_eq_true hc_1
  refine T_skip ?_
  refine T_seq ?_
  refine T_block ?_
  refine Tsr hF rfl ?_
  refine lm rfl rfl rfl rfl rfl ?_
  refine la rfl rfl rfl rfl rfl ?_
  refine L_nil ?_
  refine T_reg hF rfl ?_
  refine lm rfl rfl rfl rfl rfl ?_
  refine lm rfl rfl rfl rfl rfl ?_
  refine lm rfl rfl rfl rfl rfl ?_
  refine lo rfl (pr_sub (ns_i64 (a := k) (b := 1) sd sd) rfl rfl rfl) rfl rfl ?_
  refine lm rfl rfl rfl rfl rfl ?_
  refine lo rfl (pr_sub (ns_i64 (a := k - 1) (b := j) sd sd) rfl rfl rfl) rfl rfl ?_
  refine lo rfl (pr_mul (nm_i64 (a := 8) (b := k - 1 - j) sd) rfl rfl rfl) rfl rfl ?_
  refine lo rfl (pr_shift (sh_shr64 v _ (8 * (k - 1 - j))) rfl rfl rfl rfl) rfl rfl ?_
  refine lo rfl (pr_cv (cv64_8 _) Try.underlying30 Try.underlying5 rfl rfl) rfl rfl ?_
  refine L_op rfl (op_bslice (e := 5) (zs := [(b8 ((v >>> (8 * (k - 1 - j))).setWidth 8))]) (qs := [(0, (b8 ((v >>> (8 * (k - 1 - j))).setWidth 8)))]) (fun _ => by kernel_rfl) rfl rfl rfl rfl (fun g2 => ?_))
  refine L_op rfl (op_append (z := (b8 (0#8))) (size := 1) (bytes := 1) 1 rfl Try.underlying23 kr kr (by decide) (src_full (z := 1) 0 rfl rfl sd sd) (by simp [Value.oneCell']) sd sd rfl rfl rfl rfl rfl (fun A3 C4 => ?_))
  refine T_as 0 _ (.row (.slice A3 (n + j + 1) C4) 5 1 (n + j + 1) ((zs ++ highb v k j ++ [((v >>> (8 * (k - 1 - j))).setWidth 8)]).map b8)) rfl (by first | rfl | (congr 1; simp; done) | (simp only [List.map_append]; rfl) | (rw [List.map_append]; rfl)) ?_
  refine la rfl rfl rfl rfl rfl ?_
  refine L_nil ?_
  refine T_reg hF rfl ?_
  refine lo rfl (pr_add (na_i64 (a := j) (b := 1) sd) rfl rfl rfl) rfl rfl ?_
  refine lm rfl rfl rfl rfl rfl ?_
  refine L_nil ?_
  refine T_slot 0 (.slice A3 (n + j + 1) C4) (.slice A3 (n + (j + 1)) C4) rfl (by first | rfl | (congr 2; omega) | (simp; omega)) ?_
  refine T_as 0 _ (.row (.slice A3 (n + (j + 1)) C4) 5 1 (n + (j + 1)) ((zs ++ highb v k (j + 1)).map b8)) rfl (by simp [highb] <;> omega) ?_
  exact T_again (j + 1, A3, C4) (by first | trivial | ((try dsimp only); first | omega | (refine ⟨?_, ?_⟩ <;> omega) | (refine ⟨?_, ?_, ?_⟩ <;> omega) | (simp; done) | (simp; omega))) (by first | trivial | ((try dsimp only); first | omega | (refine ⟨?_, ?_⟩ <;> omega) | (refine ⟨?_, ?_, ?_⟩ <;> omega) | (simp; done) | (simp; omega))) (sc rfl (sc rfl (sc rfl (sc rfl (sc rfl sn))))) [0] ⟨by decide, rfl⟩
 ·
  have hc_1 := of_decide_eq_false hc_1
  refine T_exit rfl ?_
  refine Tsr hF rfl ?_
  refine lm rfl rfl rfl rfl rfl ?_
  refine la rfl rfl rfl rfl rfl ?_
  refine L_nil ?_
  refine T_ret ?_
  obtain rfl : k = j := by omega
  exact T_fin (A1, c1) (by first | trivial | omega | (simp; done)) (res1 rfl rfl) [0] ⟨by decide, rfl⟩ rfl
set_option maxHeartbeats 4000000 in
theorem low_f (xs : List (BitVec 8)) (k : Nat) (A : Option Addr) (n : Nat) (c : Nat) (w : World) (hO : HOK [.rd A 1 n c (xs.map b8)] w) (hk : k ≤ n) (hk8 : k ≤ 8) (hx : xs.length = n) : Calls Try.prog 61 [(.slice A n c), (.int .i64 ((k : Nat) : Int))].toArray w (Ret (T := Unit) [] w (fun _ => True) (fun _ => (b64 (low xs k))) (fun _ => [])) := by
 have hF : Wid Fence.wide := wid_wide
 refine enter (c := _) Try.func61 rfl [] _ [.rd A 1 n c (xs.map b8)] (by rw [Try.ntmps61]; rfl) (own_rds hO rfl) ?_
 rw [Try.ntmps61]
 refine T_re [(0, (.slice A n c)), (1, (.int .i64 ((k : Nat) : Int)))] (sc rfl (sc rfl sn)) ?_
 refine T_he [0] [.rd A 1 n c (xs.map b8)] ⟨by decide, rfl⟩ ?_
 refine Tsr hF rfl ?_
 refine la rfl rfl rfl rfl rfl ?_
 refine L_nil ?_
 refine Tsr hF rfl ?_
 refine la rfl rfl rfl rfl rfl ?_
 refine L_nil ?_
 refine T_seq ?_
 refine Tsr hF rfl ?_
 refine lm rfl rfl rfl rfl rfl ?_
 refine lm rfl rfl rfl rfl rfl ?_
 refine L_nil ?_
 refine T_block ?_
 refine T_slot 5 (b64 (0#64)) (b64 (low xs 0)) rfl (rfl) ?_
 refine T_loop (T := Nat) (fun j => j ≤ k) (fun j => [(0, (.slice A n c)), (5, (b64 (low xs j))), (7, (.int .i64 ((k : Nat) : Int))), (8, (.int .i64 ((j : Nat) : Int)))]) (fun j => [.rd A 1 n c (xs.map b8)]) (fun j => k - j) 0 (by first | trivial | ((try dsimp only); first | omega | (refine ⟨?_, ?_⟩ <;> omega) | (refine ⟨?_, ?_, ?_⟩ <;> omega) | (simp; done) | (simp; omega))) (sc rfl (sc rfl (sc rfl (sc rfl sn)))) [0] ⟨by decide, rfl⟩ ?_
 rintro j hp
 have hp : j ≤ k := hp
 refine T_re [(0, (.slice A n c)), (5, (b64 (low xs j))), (7, (.int .i64 ((k : Nat) : Int))), (8, (.int .i64 ((j : Nat) : Int)))] (sc rfl (sc rfl (sc rfl (sc rfl sn)))) ?_
 refine T_he [0] [.rd A 1 n c (xs.map b8)] ⟨by decide, rfl⟩ ?_
 refine Tsr hF rfl ?_
 refine lo rfl (pr_cmp (bo := .lss) (nc_lt (a := j) (b := k)) rfl rfl rfl rfl) rfl rfl ?_
 refine L_nil ?_
 refine T_seq ?_
 refine T_cond (decide (j < k)) rfl (fun hc_1 => ?_) (fun hc_1 => ?_)
 ·
  have hc_1 := of_decide_eq_true hc_1
  refine T_skip ?_
  refine T_seq ?_
  refine T_block ?_
  refine Tsr hF rfl ?_
  refine lm rfl rfl rfl rfl rfl ?_
  refine la rfl rfl rfl rfl rfl ?_
  refine L_nil ?_
  refine T_reg hF rfl ?_
  refine lm rfl rfl rfl rfl rfl ?_
  refine lm rfl rfl rfl rfl rfl ?_
  refine lm rfl rfl rfl rfl rfl ?_
  refine lo rfl (pr_ixs1 (j := j) (src_none (src_rd 0 rfl)) sd Try.underlying23 kr rfl rfl rfl) rfl rfl ?_
  refine lq rfl (ld_src (m := j) (src_rd 0 rfl) (get8 sd) Try.underlying5 rfl rfl rfl) rfl rfl ?_
  refine lo rfl (pr_cv (cv8_64 _) Try.underlying5 Try.underlying30 rfl rfl) rfl rfl ?_
  refine lm rfl rfl rfl rfl rfl ?_
  refine lo rfl (pr_mul (nm_i64 (a := 8) (b := j) sd) rfl rfl rfl) rfl rfl ?_
  refine lo rfl (pr_shift (sh_shl64 ((ath xs j).setWidth 64) _ (8 * j)) rfl rfl rfl rfl) rfl rfl ?_
  refine lo rfl (pr_or (ib_or64 _ _) rfl rfl rfl) rfl rfl ?_
  refine la rfl rfl rfl rfl rfl ?_
  refine L_nil ?_
  refine T_reg hF rfl ?_
  refine lo rfl (pr_add (na_i64 (a := j) (b := 1) sd) rfl rfl rfl) rfl rfl ?_
  refine lm rfl rfl rfl rfl rfl ?_
  refine L_nil ?_
  refine T_slot 5 (b64 ((low xs j) ||| (((ath xs j).setWidth 64) <<< (8 * j)))) (b64 (low xs (j + 1))) rfl (rfl) ?_
  exact T_again (j + 1) (by first | trivial | ((try dsimp only); first | omega | (refine ⟨?_, ?_⟩ <;> omega) | (refine ⟨?_, ?_, ?_⟩ <;> omega) | (simp; done) | (simp; omega))) (by first | trivial | ((try dsimp only); first | omega | (refine ⟨?_, ?_⟩ <;> omega) | (refine ⟨?_, ?_, ?_⟩ <;> omega) | (simp; done) | (simp; omega))) (sc rfl (sc rfl (sc rfl (sc rfl sn)))) [0] ⟨by decide, rfl⟩
 ·
  have hc_1 := of_decide_eq_false hc_1
  refine T_exit rfl ?_
  refine Tsr hF rfl ?_
  refine lm rfl rfl rfl rfl rfl ?_
  refine la rfl rfl rfl rfl rfl ?_
  refine L_nil ?_
  refine T_ret ?_
  obtain rfl : k = j := by omega
  exact T_fin () (by first | trivial | omega | (simp; done)) (res1 rfl rfl) [] ⟨by decide, rfl⟩ rfl
set_option maxHeartbeats 4000000 in
theorem high_f (xs : List (BitVec 8)) (k : Nat) (A : Option Addr) (n : Nat) (c : Nat) (w : World) (hO : HOK [.rd A 1 n c (xs.map b8)] w) (hk : k ≤ n) (hk8 : k ≤ 8) (hx : xs.length = n) : Calls Try.prog 113 [(.slice A n c), (.int .i64 ((k : Nat) : Int))].toArray w (Ret (T := Unit) [] w (fun _ => True) (fun _ => (b64 (high xs k))) (fun _ => [])) := by
 have hF : Wid Fence.wide := wid_wide
 refine enter (c := _) Try.func113 rfl [] _ [.rd A 1 n c (xs.map b8)] (by rw [Try.ntmps113]; rfl) (own_rds hO rfl) ?_
 rw [Try.ntmps113]
 refine T_re [(0, (.slice A n c)), (1, (.int .i64 ((k : Nat) : Int)))] (sc rfl (sc rfl sn)) ?_
 refine T_he [0] [.rd A 1 n c (xs.map b8)] ⟨by decide, rfl⟩ ?_
 refine Tsr hF rfl ?_
 refine la rfl rfl rfl rfl rfl ?_
 refine L_nil ?_
 refine Tsr hF rfl ?_
 refine la rfl rfl rfl rfl rfl ?_
 refine L_nil ?_
 refine T_seq ?_
 refine Tsr hF rfl ?_
 refine lm rfl rfl rfl rfl rfl ?_
 refine lm rfl rfl rfl rfl rfl ?_
 refine L_nil ?_
 refine T_block ?_
 refine T_slot 5 (b64 (0#64)) (b64 (high xs 0)) rfl (rfl) ?_
 refine T_loop (T := Nat) (fun j => j ≤ k) (fun j => [(0, (.slice A n c)), (5, (b64 (high xs j))), (7, (.int .i64 ((k : Nat) : Int))), (8, (.int .i64 ((j : Nat) : Int)))]) (fun j => [.rd A 1 n c (xs.map b8)]) (fun j => k - j) 0 (by first | trivial | ((try dsimp only); first | omega | (refine ⟨?_, ?_⟩ <;> omega) | (refine ⟨?_, ?_, ?_⟩ <;> omega) | (simp; done) | (simp; omega))) (sc rfl (sc rfl (sc rfl (sc rfl sn)))) [0] ⟨by decide, rfl⟩ ?_
 rintro j hp
 have hp : j ≤ k := hp
 refine T_re [(0, (.slice A n c)), (5, (b64 (high xs j))), (7, (.int .i64 ((k : Nat) : Int))), (8, (.int .i64 ((j : Nat) : Int)))] (sc rfl (sc rfl (sc rfl (sc rfl sn)))) ?_
 refine T_he [0] [.rd A 1 n c (xs.map b8)] ⟨by decide, rfl⟩ ?_
 refine Tsr hF rfl ?_
 refine lo rfl (pr_cmp (bo := .lss) (nc_lt (a := j) (b := k)) rfl rfl rfl rfl) rfl rfl ?_
 refine L_nil ?_
 refine T_seq ?_
 refine T_cond (decide (j < k)) rfl (fun hc_1 => ?_) (fun hc_1 => ?_)
 ·
  have hc_1 := of_decide_eq_true hc_1
  refine T_skip ?_
  refine T_seq ?_
  refine T_block ?_
  refine Tsr hF rfl ?_
  refine lm rfl rfl rfl rfl rfl ?_
  refine la rfl rfl rfl rfl rfl ?_
  refine L_nil ?_
  refine T_reg hF rfl ?_
  refine lm rfl rfl rfl rfl rfl ?_
  refine lo rfl (pr_shift (sh_shl64 (high xs j) _ 8) rfl rfl rfl rfl) rfl rfl ?_
  refine lm rfl rfl rfl rfl rfl ?_
  refine lm rfl rfl rfl rfl rfl ?_
  refine lo rfl (pr_ixs1 (j := j) (src_none (src_rd 0 rfl)) sd Try.underlying23 kr rfl rfl rfl) rfl rfl ?_
  refine lq rfl (ld_src (m := j) (src_rd 0 rfl) (get8 sd) Try.underlying5 rfl rfl rfl) rfl rfl ?_
  refine lo rfl (pr_cv (cv8_64 _) Try.underlying5 Try.underlying30 rfl rfl) rfl rfl ?_
  refine lo rfl (pr_or (ib_or64 _ _) rfl rfl rfl) rfl rfl ?_
  refine la rfl rfl rfl rfl rfl ?_
  refine L_nil ?_
  refine T_reg hF rfl ?_
  refine lo rfl (pr_add (na_i64 (a := j) (b := 1) sd) rfl rfl rfl) rfl rfl ?_
  refine lm rfl rfl rfl rfl rfl ?_
  refine L_nil ?_
  refine T_slot 5 (b64 (((high xs j) <<< 8) ||| ((ath xs j).setWidth 64))) (b64 (high xs (j + 1))) rfl (rfl) ?_
  exact T_again (j + 1) (by first | trivial | ((try dsimp only); first | omega | (refine ⟨?_, ?_⟩ <;> omega) | (refine ⟨?_, ?_, ?_⟩ <;> omega) | (simp; done) | (simp; omega))) (by first | trivial | ((try dsimp only); first | omega | (refine ⟨?_, ?_⟩ <;> omega) | (refine ⟨?_, ?_, ?_⟩ <;> omega) | (simp; done) | (simp; omega))) (sc rfl (sc rfl (sc rfl (sc rfl sn)))) [0] ⟨by decide, rfl⟩
 ·
  have hc_1 := of_decide_eq_false hc_1
  refine T_exit rfl ?_
  refine Tsr hF rfl ?_
  refine lm rfl rfl rfl rfl rfl ?_
  refine la rfl rfl rfl rfl rfl ?_
  refine L_nil ?_
  refine T_ret ?_
  obtain rfl : k = j := by omega
  exact T_fin () (by first | trivial | omega | (simp; done)) (res1 rfl rfl) [] ⟨by decide, rfl⟩ rfl
end Go.Proofs.Ytlplpmkdebemnaa
