/- Sequences of Go's library, by facts: pieces of a slice; the values of a slice of slices. Conditions: lengths far below the greatest. -/
import Derived.Test.YtlplpmkdebemnaaGOct
import Derived.Test.YtlplpmkdebemnaaProg
import Derived.Test.YtlplpmkdebemnaaFwU
namespace Go.Proofs.Ytlplpmkdebemnaa
set_option linter.unusedVariables false
set_option linter.unusedSimpArgs false
set_option linter.unnecessarySimpa false
set_option maxRecDepth 100000
open Go.RowKit Bv Fw

set_option maxHeartbeats 4000000 in
theorem chunk_seq (b : List (BitVec 8)) (z : Nat) (A : Option Addr) (n : Nat) (c : Nat) (g1 : Nat) (g2 : Nat) (hz : 0 < z) (hz2 : z ≤ 1000000) (hb : b.length = n) (hn : n ≤ 100000000000000) : SeqC (Θ := Option Addr) Try.prog 65 [(.pointer (some ⟨g1, 0, none⟩)), (.pointer (some ⟨g2, 0, none⟩))] [.rd (some ⟨g1, 0, none⟩) 1 1 1 [(.slice A n c)], .rd (some ⟨g2, 0, none⟩) 1 1 1 [(.int .i64 ((z : Nat) : Int))], .rd A 1 n c (b.map b8)] ((n + z - 1) / z) (fun k B => [(.slice B (min z (n - z * k)) (min z (n - z * k)))]) (fun k B => [.rd B 1 (min z (n - z * k)) (min z (n - z * k)) ((List.take (min z (n - z * k)) (List.drop (z * k) b)).map b8)]) := by
 have hF : Wid Fence.wide := wid_wide
 refine enter_seq (c := _) Try.func65 rfl (by rw [Try.ntmps65]; rfl) rfl ?_
 intro l J Jx W O R hsJ hsX hy hend
 rw [Try.ntmps65]
 refine T_re [(0, (.func (.yield l) #[] #[])), (1, (.pointer (some ⟨g1, 0, none⟩))), (2, (.pointer (some ⟨g2, 0, none⟩)))] (sc rfl (sc rfl (sc rfl sn))) ?_
 refine T_he [0, 1, 2, 3] [.inv W.heap.size O R (J 0 O R), .rd (some ⟨g1, 0, none⟩) 1 1 1 [(.slice A n c)], .rd (some ⟨g2, 0, none⟩) 1 1 1 [(.int .i64 ((z : Nat) : Int))], .rd A 1 n c (b.map b8)] ⟨by decide, rfl⟩ ?_
 refine Tsr hF rfl ?_
 refine la rfl rfl rfl rfl rfl ?_
 refine L_nil ?_
 refine T_block ?_
 refine T_slot 4 (.int .i64 ((0 : Nat) : Int)) (.int .i64 ((z * 0 : Nat) : Int)) rfl (by first | rfl | (congr 2; omega) | (simp; omega)) ?_
 refine T_loop (T := Nat × List Nat × List Nat) (fun ⟨k, O, R⟩ => k ≤ (n + z - 1) / z) (fun ⟨k, O, R⟩ => [(0, (.func (.yield l) #[] #[])), (1, (.pointer (some ⟨g1, 0, none⟩))), (2, (.pointer (some ⟨g2, 0, none⟩))), (4, (.int .i64 ((z * k : Nat) : Int)))]) (fun ⟨k, O, R⟩ => [.inv W.heap.size O R (J k O R), .rd (some ⟨g1, 0, none⟩) 1 1 1 [(.slice A n c)], .rd (some ⟨g2, 0, none⟩) 1 1 1 [(.int .i64 ((z : Nat) : Int))], .rd A 1 n c (b.map b8)]) (fun ⟨k, O, R⟩ => (n + z - 1) / z - k) (0, O, R) (by first | trivial | ((try dsimp only); first | omega | (refine ⟨?_, ?_⟩ <;> omega) | (refine ⟨?_, ?_, ?_⟩ <;> omega) | (simp; done) | (simp; omega))) (sc rfl (sc rfl (sc rfl (sc rfl sn)))) [0, 1, 2, 3] ⟨by decide, rfl⟩ ?_
 rintro ⟨k, O, R⟩ hp
 have hp : k ≤ (n + z - 1) / z := hp
 have hmk := chunk_mul z n k hz hp
 have hmk1 : z * (k + 1) = z * k + z := Nat.mul_succ z k
 refine T_re [(0, (.func (.yield l) #[] #[])), (1, (.pointer (some ⟨g1, 0, none⟩))), (2, (.pointer (some ⟨g2, 0, none⟩))), (4, (.int .i64 ((z * k : Nat) : Int)))] (sc rfl (sc rfl (sc rfl (sc rfl sn)))) ?_
 refine T_he [0, 1, 2, 3] [.inv W.heap.size O R (J k O R), .rd (some ⟨g1, 0, none⟩) 1 1 1 [(.slice A n c)], .rd (some ⟨g2, 0, none⟩) 1 1 1 [(.int .i64 ((z : Nat) : Int))], .rd A 1 n c (b.map b8)] ⟨by decide, rfl⟩ ?_
 refine T_seq ?_
 refine Tsr hF rfl ?_
 refine lm rfl rfl rfl rfl rfl ?_
 refine lq rfl (ld_rdb (src_rd 1 rfl) rfl Try.underlying23 rfl rfl rfl) rfl rfl ?_
 refine lo rfl (pr_len_sl Try.underlying23 rfl rfl) rfl rfl ?_
 refine lo rfl (pr_cmp (bo := .lss) (nc_lt (a := z * k) (b := n)) rfl rfl rfl rfl) rfl rfl ?_
 refine L_nil ?_
 refine T_cond (decide (z * k < n)) rfl (fun hc_1 => ?_) (fun hc_1 => ?_)
 ·
  have hc_1 := of_decide_eq_true hc_1
  refine T_skip ?_
  refine T_seq ?_
  refine T_block ?_
  refine T_seq ?_
  refine T_regD [.inv W.heap.size O R (J k O R), .rd (some ⟨g1, 0, none⟩) 1 1 1 [(.slice A n c)], .rd (some ⟨g2, 0, none⟩) 1 1 1 [(.int .i64 ((z : Nat) : Int))], .rd A 1 n c (b.map b8)] 7 7 #[false, false, false, false, false, false, false] hF kr kr ?_
  refine D_pure (i := 2) [0, 1, 2, 3] rfl kr rfl (pr_move rfl rfl) (.inr rfl) rfl rfl ?_
  refine D_take (i := 0) [0, 1, 2, 3] rfl kr rfl (ld_rdb (src_rd 2 rfl) rfl Try.underlying3 rfl rfl rfl) rfl rfl rfl ?_
  refine D_take (i := 1) [0, 1, 2, 3] rfl kr rfl (ld_rdb (src_rd 1 rfl) rfl Try.underlying23 rfl rfl rfl) rfl rfl rfl ?_
  refine D_one 3 _ rfl kr rfl (op_slice_rd (l := z * k) (u := n) 3 rfl sd sd Try.underlying23 kr rfl rfl ⟨_, rfl⟩ rfl rfl rfl (fun B2 => ?_))
  refine T_as 0 _ (.rd B2 1 (n - (z * k)) (c - (z * k)) ((List.drop (z * k) b).map b8)) rfl (by congr 1; first | rfl | (rw [List.take_of_length_le (by simp; omega)]; simp)) ?_
  refine D_on [1, 2, 3, 4] rfl ?_
  refine D_pure (i := 4) [1, 2, 3, 4] rfl kr rfl (pr_len_sl Try.underlying23 rfl rfl) (.inr rfl) rfl rfl ?_
  refine D_pure (i := 5) [1, 2, 3, 4] rfl kr rfl ((pr_as (pr_min rfl rfl rfl) (nmin (k := .i64) (a := z) (b := n - (z * k))))) (.inr rfl) rfl rfl ?_
  refine D_pure (i := 6) [1, 2, 3, 4] rfl kr rfl (pr_assign rfl rfl) (.inr rfl) rfl rfl ?_
  refine D_done kr ?_
  refine T_seq ?_
  refine T_regI ?_
  refine LI_opP hF rfl rfl (op_pr (pr_move rfl rfl) rfl rfl ?_)
  refine LI_opP hF rfl rfl (op_ld (ld_rdb (src_rd 2 rfl) rfl Try.underlying23 rfl rfl rfl) rfl rfl ?_)
  refine LI_opP hF rfl rfl (op_pr (pr_move rfl rfl) rfl rfl ?_)
  refine LI_opP hF rfl rfl (op_pr (pr_move rfl rfl) rfl rfl ?_)
  refine LI_opP hF rfl rfl (op_pr (pr_move rfl rfl) rfl rfl ?_)
  refine LI_opP hF rfl rfl (op_pr (pr_add (na_i64 (a := z * k) (b := min z (n - (z * k))) sd) rfl rfl rfl) rfl rfl ?_)
  refine LI_opP hF rfl rfl (op_pr (pr_move rfl rfl) rfl rfl ?_)
  refine LI_opP hF rfl rfl (op_pr (pr_move rfl rfl) rfl rfl ?_)
  refine LI_opP hF rfl rfl (op_pr (pr_add (na_i64 (a := z * k) (b := min z (n - (z * k))) sd) rfl rfl rfl) rfl rfl ?_)
  refine LI_opP hF rfl rfl (op_slice3_rd (l := z * k) (u := z * k + (min z (n - (z * k)))) 4 rfl sd sd Try.underlying23 kr rfl rfl rfl rfl rfl rfl rfl (fun B3 => ?_))
  refine T_as 0 _ (.rd B3 1 (z * k + (min z (n - (z * k))) - (z * k)) (z * k + (min z (n - (z * k))) - (z * k)) ((List.take (z * k + (min z (n - (z * k))) - (z * k)) (List.drop (z * k) b)).map b8)) rfl (by congr 1; simp [List.map_take, List.map_drop]) ?_
  refine T_slot 28 _ (.slice B3 (min z (n - z * k)) (min z (n - z * k))) rfl (by congr 1 <;> omega) ?_
  refine T_as 0 _ (.rd B3 1 (min z (n - z * k)) (min z (n - z * k)) ((List.take (min z (n - z * k)) (List.drop (z * k) b)).map b8)) rfl (by congr 1 <;> simp) ?_
  refine LI_op rfl (op_yield (k := k) (B3 : Option Addr) hy (chunk_lt z n k hz (by assumption)) hsJ hsX 2 rfl [0] rfl rfl rfl rfl rfl rfl rfl rfl rfl (fun _ => trivial) (fun O4 R5 => ?_) (fun O6 R7 => ?_))
  ·
   refine LI_opP hF rfl rfl (op_pr (pr_un (v := .bool false) rfl rfl rfl) rfl rfl ?_)
   refine LI_nil ?_
   refine T_cond_f rfl ?_
   refine T_skip ?_
   refine T_reg hF rfl ?_
   refine lm rfl rfl rfl rfl rfl ?_
   refine lq rfl (ld_rdb (src_rd 4 rfl) rfl Try.underlying3 rfl rfl rfl) rfl rfl ?_
   refine lo rfl (pr_add (na_i64 (a := z * k) (b := z) sd) rfl rfl rfl) rfl rfl ?_
   refine la rfl rfl rfl rfl rfl ?_
   refine L_nil ?_
   refine T_slot 4 (.int .i64 ((z * k + z : Nat) : Int)) (.int .i64 ((z * (k + 1) : Nat) : Int)) rfl (by rw [hmk1]) ?_
   exact T_again (k + 1, O4, R5) (chunk_le z n k hz (by assumption)) (by have := chunk_lt z n k hz (by assumption); dsimp only; omega) (sc rfl (sc rfl (sc rfl (sc rfl sn)))) [0, 3, 4, 5] ⟨by decide, rfl⟩
  ·
   refine LI_opP hF rfl rfl (op_pr (pr_un (v := .bool true) rfl rfl rfl) rfl rfl ?_)
   refine LI_nil ?_
   refine T_cond_t rfl ?_
   refine T_ret ?_
   exact T_finX rfl rfl 0 rfl
 ·
  have hc_1 := of_decide_eq_false hc_1
  refine T_exit rfl ?_
  obtain rfl : k = (n + z - 1) / z := chunk_ge z n k hz (by assumption) (by assumption)
  exact T_finJ rfl rfl 0 rfl
set_option maxHeartbeats 4000000 in
theorem chunk_f (A : Option Addr) (n : Nat) (c : Nat) (z : Nat) (w : World) (hO : HOK [] w) (hz : 0 < z) : Calls Try.prog 44 [(.slice A n c), (.int .i64 ((z : Nat) : Int))].toArray w (Ret (T := Nat × Nat) [] w (fun ⟨g1, g2⟩ => True) (fun ⟨g1, g2⟩ => (.func (.func 65) #[] [(.pointer (some ⟨g1, 0, none⟩)), (.pointer (some ⟨g2, 0, none⟩))].toArray)) (fun ⟨g1, g2⟩ => [.old (some ⟨g1, 0, none⟩) 1 1 1 [(.slice A n c)], .old (some ⟨g2, 0, none⟩) 1 1 1 [(.int .i64 ((z : Nat) : Int))]])) := by
 have hF : Wid Fence.wide := wid_wide
 refine enter (c := _) Try.func44 rfl [] _ [] (by rw [Try.ntmps44]; rfl) (own_rds hO rfl) ?_
 rw [Try.ntmps44]
 refine T_re [(0, (.slice A n c)), (1, (.int .i64 ((z : Nat) : Int)))] (sc rfl (sc rfl sn)) ?_
 refine T_he [] [] ⟨by decide, rfl⟩ ?_
 refine Tsr hF rfl ?_
 refine L_op rfl (op_box (zs := [(.slice A n c)]) rfl rfl rfl rfl rfl (fun g1 => ?_))
 refine L_op rfl (op_box (zs := [(.int .i64 ((z : Nat) : Int))]) rfl rfl rfl rfl rfl (fun g2 => ?_))
 refine la rfl rfl rfl rfl rfl ?_
 refine L_nil ?_
 refine T_seq ?_
 refine Tsr hF rfl ?_
 refine lq rfl (ld_blk 0 rfl rfl Try.underlying3 rfl rfl rfl) rfl rfl ?_
 refine lo rfl (pr_cmp (bo := .lss) (nc_lt (a := z) (b := 1)) rfl rfl rfl rfl) rfl rfl ?_
 refine L_nil ?_
 refine T_cond_no (t := decide (z < 1)) rfl (by rw [decide_eq_false_iff_not]; omega) ?_
 refine T_skip ?_
 refine Tsr hF rfl ?_
 refine lo rfl (pr_mkfn (us := []) (vs := [(.pointer (some ⟨g1, 0, none⟩)), (.pointer (some ⟨g2, 0, none⟩))]) rfl rfl rfl) rfl rfl ?_
 refine la rfl rfl rfl rfl rfl ?_
 refine L_nil ?_
 refine T_ret ?_
 refine T_oldb 1 (zs := [(.slice A n c)]) 0 1 1 1 rfl rfl rfl sd sd ?_
 refine T_oldb 1 (zs := [(.int .i64 ((z : Nat) : Int))]) 0 1 1 1 rfl rfl rfl sd sd ?_
 exact T_fin (g1, g2) (by first | trivial | omega | (simp; done)) (res1 rfl rfl) [1, 0] ⟨by decide, rfl⟩ rfl
end Go.Proofs.Ytlplpmkdebemnaa
