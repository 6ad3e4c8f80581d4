/- What Spoil does, by facts. No conditions. -/
import Derived.Test.YtemjinkdfjoicaaGHlp
import Derived.Test.YtemjinkdfjoicaaFwY
import Derived.Test.YtemjinkdfjoicaaProg
import Derived.Test.YtemjinkdfjoicaaFwU
namespace Go.Proofs.Ytemjinkdfjoicaa
set_option linter.unusedVariables false
set_option linter.unusedSimpArgs false
set_option linter.unnecessarySimpa false
open Go.RowKit Bv Fw

set_option maxHeartbeats 4000000 in
theorem spoil_f (xs : List (BitVec 8)) (A : Option Addr) (n : Nat) (c : Nat) (w : World) (hO : HA.ok w (.row (.slice A n c) 5 1 n (xs.map b8))) (hx : xs.length = n) (hn : n ≤ 10000000000000) : Calls Try.prog 29 [(.slice A n c)].toArray w (Ret (T := Unit) (HA.ids (.row (.slice A n c) 5 1 n (xs.map b8))) w (fun _ => True) (fun _ => (.tuple [].toArray)) (fun _ => [])) := by
 have hF : Wid Fence.wide := wid_wide
 refine enter (c := _) Try.func29 rfl (HA.ids (.row (.slice A n c) 5 1 n (xs.map b8))) [(.slice A n c)] [.row (.slice A n c) 5 1 n (xs.map b8)] (by rw [Try.ntmps29]; rfl) (own_one hO rfl rfl) ?_
 rw [Try.ntmps29]
 refine T_re [(0, (.slice A n c))] (sc rfl sn) ?_
 refine T_he [0] [.row (.slice A n c) 5 1 n (xs.map b8)] ⟨by decide, rfl⟩ ?_
 refine Tsr hF rfl ?_
 refine la rfl rfl rfl rfl rfl ?_
 refine L_nil ?_
 refine T_block ?_
 refine T_loop (T := Nat × List (BitVec 8)) (fun ⟨k, ys⟩ => k ≤ n ∧ ys.length = n) (fun ⟨k, ys⟩ => [(0, (.slice A n c)), (2, (.int .i64 ((k : Nat) : Int)))]) (fun ⟨k, ys⟩ => [.row (.slice A n c) 5 1 n (ys.map b8)]) (fun ⟨k, ys⟩ => n - k) (0, xs) (⟨by omega, hx⟩) (sc rfl (sc rfl sn)) [0] ⟨by decide, rfl⟩ ?_
 rintro ⟨k, ys⟩ hp
 have hp : k ≤ n ∧ ys.length = n := hp
 have hyl := hp.2
 refine T_re [(0, (.slice A n c)), (2, (.int .i64 ((k : Nat) : Int)))] (sc rfl (sc rfl sn)) ?_
 refine T_he [0] [.row (.slice A n c) 5 1 n (ys.map b8)] ⟨by decide, rfl⟩ ?_
 refine T_seq ?_
 refine Tsr hF rfl ?_
 refine lm rfl rfl rfl rfl rfl ?_
 refine lm rfl rfl rfl rfl rfl ?_
 refine lo rfl (pr_len_sl Try.underlying25 rfl rfl) rfl rfl ?_
 refine lo rfl (pr_cmp (bo := .lss) (nc_lt (a := k) (b := n)) rfl rfl rfl rfl) rfl rfl ?_
 refine L_nil ?_
 refine T_cond (decide (k < n)) rfl (fun hc_1 => ?_) (fun hc_1 => ?_)
 ·
  have hc_1 := of_decide_eq_true hc_1
  refine T_skip ?_
  refine T_seq ?_
  refine T_block ?_
  refine T_reg hF rfl ?_
  refine lm rfl rfl rfl rfl rfl ?_
  refine lm rfl rfl rfl rfl rfl ?_
  refine lm rfl rfl rfl rfl rfl ?_
  refine lm rfl rfl rfl rfl rfl ?_
  refine lo rfl (pr_ixs1 (j := k) (src_none (src_row 0 rfl)) sd Try.underlying25 kr rfl rfl rfl) rfl rfl ?_
  refine lq rfl (ld_src (m := k) (src_row 0 rfl) (get8 sd) Try.underlying5 rfl rfl rfl) rfl rfl ?_
  refine lo rfl (pr_xor (ib_xor8 _ (85#8)) rfl rfl rfl) rfl rfl ?_
  refine lo rfl (pr_ixs1 (j := k) (src_none (src_row 0 rfl)) sd Try.underlying25 kr rfl rfl rfl) rfl rfl ?_
  refine L_op rfl (op_store_row (m := k) (v := ((ath ys k) ^^^ 85#8)) 0 rfl sd kr rfl rfl rfl rfl ?_)
  refine L_nil ?_
  refine T_reg hF rfl ?_
  refine lm rfl rfl rfl rfl rfl ?_
  refine lo rfl (pr_add (na_i64 (a := k) (b := 1) sd) rfl rfl rfl) rfl rfl ?_
  refine la rfl rfl rfl rfl rfl ?_
  refine L_nil ?_
  exact T_again (k + 1, (List.set ys k ((ath ys k) ^^^ 85#8))) (by simp; omega) (by first | trivial | ((try dsimp only); first | omega | (refine ⟨?_, ?_⟩ <;> omega) | (refine ⟨?_, ?_, ?_⟩ <;> omega) | (simp; done) | (simp; omega))) (sc rfl (sc rfl sn)) [0] ⟨by decide, rfl⟩
 ·
  have hc_1 := of_decide_eq_false hc_1
  refine T_exit rfl ?_
  exact T_fin () (by first | trivial | omega | (simp; done)) (res0 rfl) [] ⟨by decide, rfl⟩ rfl
end Go.Proofs.Ytemjinkdfjoicaa
