/- The statements of layer 2, walked by facts. -/
import Derived.Test.YtmhkmamenfmolaaGRef2
import Derived.Test.YtmhkmamenfmolaaShaL
import Derived.Test.YtmhkmamenfmolaaProg
import Derived.Test.YtmhkmamenfmolaaFwK
namespace Go.Proofs.Ytmhkmamenfmolaa
set_option linter.unusedVariables false
set_option linter.unusedSimpArgs false
set_option linter.unnecessarySimpa false
open Go.RowKit Bv Fw

theorem edges_cat (bs : List (BitVec 8)) (n : Nat) (h : bs.length = n) {A B : Option Addr} {a b c d : Nat} : catp [⟨A, a, b, List.take (n / 2) (List.drop 0 bs)⟩, ⟨B, c, d, List.take (n - n / 2) (List.drop (n / 2) bs)⟩] = bs := by
  have e : catp [⟨A, a, b, List.take (n / 2) (List.drop 0 bs)⟩, ⟨B, c, d, List.take (n - n / 2) (List.drop (n / 2) bs)⟩] = List.take (n / 2) bs ++ List.take (n - n / 2) (List.drop (n / 2) bs) := by simp [catp]
  rw [e, List.take_of_length_le (l := List.drop (n / 2) bs) (by simp; omega), List.take_append_drop]

theorem catp_one {A : Option Addr} {a b : Nat} {xs : List (BitVec 8)} : catp [⟨A, a, b, xs⟩] = xs := by simp [catp]

theorem parts_cat {Q : List Pt} {A B : Option Addr} {a b c d : Nat} {ys : List (BitVec 8)} : catp (Q ++ [⟨A, a, b, ys⟩, ⟨B, c, d, []⟩]) = catp Q ++ ys := by simp [catp]

set_option maxHeartbeats 4000000 in
theorem shaPads_f (z : Int) (w : World) (hO : HOK [] w)  : Calls Try.prog 7 [(.int .i64 z)].toArray w (Ret (T := Unit) [] w (fun _ => True) (fun _ => (.bool true)) (fun _ => [])) := by
  have hF : Wid Fence.wide := wid_wide
  refine enter (c := _) Try.func7 rfl [] [(.int .i64 z)] [] (by rw [Try.ntmps7]; rfl) (own_rds hO rfl) ?_
  rw [Try.ntmps7]
  refine T_re [(0, (.int .i64 z))] (sc rfl sn) ?_
  refine T_he [] [] ⟨by decide, rfl⟩ ?_
  refine T_seq ?_
  refine T_reg hF rfl ?_
  refine L_op rfl (op_pr (pr_assign rfl rfl) rfl rfl ?_)
  refine L_nil ?_
  refine T_re [(0, (.int .i64 z))] (sc rfl sn) ?_
  refine T_he [] [] ⟨by decide, rfl⟩ ?_
  refine T_seq ?_
  refine T_reg hF rfl ?_
  refine L_op rfl (op_pr (pr_move rfl rfl) rfl rfl ?_)
  refine L_op rfl (op_pr (pr_cv (zc_u64 z) Try.underlying3 Try.underlying37 rfl rfl) rfl rfl ?_)
  refine L_op rfl (op_pr (pr_rem (a := (BitVec.ofInt 64 z).toNat) (b := 1073741824) (by first | omega | (simp; done) | (simp; omega) | (simp [*]; done) | (simp [*]; omega)) rfl rfl rfl) rfl rfl ?_)
  refine L_op rfl (op_pr (pr_cv (ni_i64 (a := ((BitVec.ofInt 64 z).toNat) % 1073741824) (by first | omega | (simp; done) | (simp; omega) | (simp [*]; done) | (simp [*]; omega))) Try.underlying37 Try.underlying3 rfl rfl) rfl rfl ?_)
  refine L_op rfl (op_pr (pr_assign rfl rfl) rfl rfl ?_)
  refine L_nil ?_
  obtain ⟨n, hn_n⟩ : ∃ x : Nat, ((BitVec.ofInt 64 z).toNat) % 1073741824 = x := ⟨_, rfl⟩
  have hnb : n < 1073741824 := by omega
  have hge := plen_ge n
  have hle := plen_le n
  have hmd := plen_mod n
  have hpbl := padb_len n
  refine T_slot 0 (.int .i64 ((((BitVec.ofInt 64 z).toNat) % 1073741824 : Nat) : Int)) (.int .i64 ((n : Nat) : Int)) rfl (by rw [hn_n]) ?_
  refine T_re [(0, (.int .i64 ((n : Nat) : Int)))] (sc rfl sn) ?_
  refine T_he [] [] ⟨by decide, rfl⟩ ?_
  refine T_seq ?_
  refine T_reg hF rfl ?_
  refine L_op rfl (op_pr (pr_move rfl rfl) rfl rfl ?_)
  refine L_op rfl (op_call0 (vs := [(.int .i64 ((n : Nat) : Int))]) (cap := []) (fun w hw => pad_f n w (hok_nil w) (by first | omega | (simp; done) | (simp; omega) | (simp [*]; done) | (simp [*]; omega))) (enters_of Try.func20 (by kernel_rfl) rfl) rfl rfl rfl rfl rfl (fun t1 q2 => ?_))
  obtain ⟨B3, d4⟩ := t1
  refine L_op rfl (op_pr (pr_assign rfl rfl) rfl rfl ?_)
  refine L_nil ?_
  refine T_re [(0, (.int .i64 ((n : Nat) : Int))), (3, (.slice B3 (plen n) d4))] (sc rfl (sc rfl sn)) ?_
  refine T_he [0] [.row (.slice B3 (plen n) d4) 5 1 (plen n) ((padb n).map b8)] ⟨by decide, rfl⟩ ?_
  refine T_seq ?_
  refine T_seq ?_
  refine T_reg hF rfl ?_
  refine L_op rfl (op_call0 (vs := []) (cap := []) (fun w hw => awake_f  w (hok_nil w) ) (enters_of Try.func15 (by kernel_rfl) rfl) rfl rfl rfl rfl rfl (fun t5 q6 => ?_))
  refine L_op rfl (op_pr (pr_un (v := .bool false) rfl rfl rfl) rfl rfl ?_)
  refine L_op rfl (op_pr (pr_move rfl rfl) rfl rfl ?_)
  refine L_op rfl (op_pr (pr_move rfl rfl) rfl rfl ?_)
  refine L_op rfl (op_pr (pr_len_sl Try.underlying24 rfl rfl) rfl rfl ?_)
  refine L_op rfl (op_pr (pr_cmp (bo := .lss) (nc_lt (a := plen n) (b := 9)) rfl rfl rfl rfl) rfl rfl ?_)
  refine L_op rfl (op_pr (pr_pick_f rfl rfl rfl) rfl rfl ?_)
  refine L_op rfl (op_pr (pr_move rfl rfl) rfl rfl ?_)
  refine T_slot 20 (.bool (decide (plen n < 9))) (.bool false) rfl (congrArg _ (by simp; omega)) ?_
  refine L_op rfl (op_pr (pr_move rfl rfl) rfl rfl ?_)
  refine L_op rfl (op_pr (pr_ixs1 (j := 0) (src_none (src_row 0 rfl)) (by first | omega | (simp; done) | (simp; omega) | (simp [*]; done) | (simp [*]; omega)) Try.underlying24 (by kernel_rfl) rfl rfl rfl) rfl rfl ?_)
  refine L_op rfl (op_ld (ld_src (m := 0) (src_row 0 rfl) (get8 (by first | omega | (simp; done) | (simp; omega) | (simp [*]; done) | (simp [*]; omega))) Try.underlying5 rfl rfl rfl) rfl rfl ?_)
  refine L_op rfl (op_pr (pr_cmp (bo := .neq) (n8_bne (ath (padb n) 0) (128#8)) rfl rfl rfl rfl) rfl rfl ?_)
  refine L_op rfl (op_pr (pr_pick_f rfl rfl rfl) rfl rfl ?_)
  refine L_op rfl (op_pr (pr_move rfl rfl) rfl rfl ?_)
  refine T_slot 26 (.bool ((ath (padb n) 0) != 128#8)) (.bool false) rfl (congrArg _ (by rw [padb_head]; rfl)) ?_
  refine L_op rfl (op_pr (pr_move rfl rfl) rfl rfl ?_)
  refine L_op rfl (op_pr (pr_len_sl Try.underlying24 rfl rfl) rfl rfl ?_)
  refine L_op rfl (op_pr (pr_cmp (bo := .gtr) (nc_lt (a := 72) (b := plen n)) rfl rfl rfl rfl) rfl rfl ?_)
  refine L_op rfl (op_pr (pr_pick_f rfl rfl rfl) rfl rfl ?_)
  refine L_nil ?_
  refine T_re [(0, (.int .i64 ((n : Nat) : Int))), (3, (.slice B3 (plen n) d4)), (30, (.bool (decide (72 < plen n))))] (sc rfl (sc rfl (sc rfl sn))) ?_
  refine T_he [0] [.row (.slice B3 (plen n) d4) 5 1 (plen n) ((padb n).map b8)] ⟨by decide, rfl⟩ ?_
  refine T_cond_no (t := decide (72 < plen n)) rfl (by simp; omega) ?_
  refine T_skip ?_
  refine T_seq ?_
  refine T_reg hF rfl ?_
  refine L_op rfl (op_pr (pr_assign rfl rfl) rfl rfl ?_)
  refine L_nil ?_
  refine T_re [(0, (.int .i64 ((n : Nat) : Int))), (3, (.slice B3 (plen n) d4)), (4, (.int .i64 ((0 : Nat) : Int)))] (sc rfl (sc rfl (sc rfl sn))) ?_
  refine T_he [0] [.row (.slice B3 (plen n) d4) 5 1 (plen n) ((padb n).map b8)] ⟨by decide, rfl⟩ ?_
  refine T_seq ?_
  refine T_seq ?_
  refine T_reg hF rfl ?_
  refine L_op rfl (op_pr (pr_move rfl rfl) rfl rfl ?_)
  refine L_op rfl (op_pr (pr_len_sl Try.underlying24 rfl rfl) rfl rfl ?_)
  refine L_op rfl (op_pr (pr_sub (ns_i64 (a := plen n) (b := 8) (by first | omega | (simp; done) | (simp; omega) | (simp [*]; done) | (simp [*]; omega)) (by first | omega | (simp; done) | (simp; omega) | (simp [*]; done) | (simp [*]; omega))) rfl rfl rfl) rfl rfl ?_)
  refine L_op rfl (op_pr (pr_assign rfl rfl) rfl rfl ?_)
  refine L_nil ?_
  refine T_re [(0, (.int .i64 ((n : Nat) : Int))), (3, (.slice B3 (plen n) d4)), (4, (.int .i64 ((0 : Nat) : Int))), (5, (.int .i64 ((plen n - 8 : Nat) : Int)))] (sc rfl (sc rfl (sc rfl (sc rfl sn)))) ?_
  refine T_he [0] [.row (.slice B3 (plen n) d4) 5 1 (plen n) ((padb n).map b8)] ⟨by decide, rfl⟩ ?_
  refine T_block ?_
  refine T_slot 4 (.int .i64 ((0 : Nat) : Int)) (.int .i64 ((8 * n / 2 ^ (8 * (8 - 0)) : Nat) : Int)) rfl (by rw [bits_zero n hnb]) ?_
  refine T_slot 5 (.int .i64 ((plen n - 8 : Nat) : Int)) (.int .i64 ((plen n - 8 + 0 : Nat) : Int)) rfl (by rfl) ?_
  refine T_loop (T := Nat) (fun k => k ≤ 8) (fun k => [(0, (.int .i64 ((n : Nat) : Int))), (3, (.slice B3 (plen n) d4)), (4, (.int .i64 ((8 * n / 2 ^ (8 * (8 - k)) : Nat) : Int))), (5, (.int .i64 ((plen n - 8 + k : Nat) : Int)))]) (fun k => [.row (.slice B3 (plen n) d4) 5 1 (plen n) ((padb n).map b8)]) (fun k => 8 - k) 0 (by first | trivial | ((try dsimp only); first | omega | (refine ⟨?_, ?_⟩ <;> omega) | (refine ⟨?_, ?_, ?_⟩ <;> omega) | (simp; done) | (simp; omega))) (sc rfl (sc rfl (sc rfl (sc rfl sn)))) [0] ⟨by decide, rfl⟩ ?_
  rintro k hp
  have hp : k ≤ 8 := hp
  have hbl := bits_le n (8 * (8 - k))
  have hxl := (ath (padb n) (plen n - 8 + k)).isLt
  refine T_re [(0, (.int .i64 ((n : Nat) : Int))), (3, (.slice B3 (plen n) d4)), (4, (.int .i64 ((8 * n / 2 ^ (8 * (8 - k)) : Nat) : Int))), (5, (.int .i64 ((plen n - 8 + k : Nat) : Int)))] (sc rfl (sc rfl (sc rfl (sc rfl sn)))) ?_
  refine T_he [0] [.row (.slice B3 (plen n) d4) 5 1 (plen n) ((padb n).map b8)] ⟨by decide, rfl⟩ ?_
  refine T_seq ?_
  refine T_seq ?_
  refine T_reg hF rfl ?_
  refine L_op rfl (op_pr (pr_move rfl rfl) rfl rfl ?_)
  refine L_op rfl (op_pr (pr_move rfl rfl) rfl rfl ?_)
  refine L_op rfl (op_pr (pr_len_sl Try.underlying24 rfl rfl) rfl rfl ?_)
  refine L_op rfl (op_pr (pr_cmp (bo := .lss) (nc_lt (a := plen n - 8 + k) (b := plen n)) rfl rfl rfl rfl) rfl rfl ?_)
  refine L_nil ?_
  refine T_re [(0, (.int .i64 ((n : Nat) : Int))), (3, (.slice B3 (plen n) d4)), (4, (.int .i64 ((8 * n / 2 ^ (8 * (8 - k)) : Nat) : Int))), (5, (.int .i64 ((plen n - 8 + k : Nat) : Int))), (37, (.bool (decide (plen n - 8 + k < plen n))))] (sc rfl (sc rfl (sc rfl (sc rfl (sc rfl sn))))) ?_
  refine T_he [0] [.row (.slice B3 (plen n) d4) 5 1 (plen n) ((padb n).map b8)] ⟨by decide, rfl⟩ ?_
  refine T_cond (decide (plen n - 8 + k < plen n)) rfl (fun hc_9 => ?_) (fun hc_9 => ?_)
  · skip
    have hc_9 := of_decide_eq_true hc_9
    refine T_skip ?_
    refine T_seq ?_
    refine T_block ?_
    refine T_reg hF rfl ?_
    refine L_op rfl (op_pr (pr_move rfl rfl) rfl rfl ?_)
    refine L_op rfl (op_pr (pr_shift (nsh_i64 (a := 8 * n / 2 ^ (8 * (8 - k))) (m := 8) (by first | omega | (simp; done) | (simp; omega) | (simp [*]; done) | (simp [*]; omega)) (by decide)) rfl rfl rfl rfl) rfl rfl ?_)
    refine L_op rfl (op_pr (pr_move rfl rfl) rfl rfl ?_)
    refine L_op rfl (op_pr (pr_move rfl rfl) rfl rfl ?_)
    refine L_op rfl (op_pr (pr_ixs1 (j := plen n - 8 + k) (src_none (src_row 0 rfl)) (by first | omega | (simp; done) | (simp; omega) | (simp [*]; done) | (simp [*]; omega)) Try.underlying24 (by kernel_rfl) rfl rfl rfl) rfl rfl ?_)
    refine L_op rfl (op_ld (ld_src (m := plen n - 8 + k) (src_row 0 rfl) (get8 (by first | omega | (simp; done) | (simp; omega) | (simp [*]; done) | (simp [*]; omega))) Try.underlying5 rfl rfl rfl) rfl rfl ?_)
    refine L_op rfl (op_pr (pr_cv (n8i ) Try.underlying5 Try.underlying3 rfl rfl) rfl rfl ?_)
    refine L_op rfl (op_pr (pr_or (no_i64 (a := (8 * n / 2 ^ (8 * (8 - k))) * 2 ^ 8) (b := (ath (padb n) (plen n - 8 + k)).toNat) (by first | omega | (simp; done) | (simp; omega) | (simp [*]; done) | (simp [*]; omega)) (by first | omega | (simp; done) | (simp; omega) | (simp [*]; done) | (simp [*]; omega))) rfl rfl rfl) rfl rfl ?_)
    refine L_op rfl (op_pr (pr_assign rfl rfl) rfl rfl ?_)
    refine L_nil ?_
    refine T_re [(0, (.int .i64 ((n : Nat) : Int))), (3, (.slice B3 (plen n) d4)), (4, (.int .i64 ((((8 * n / 2 ^ (8 * (8 - k))) * 2 ^ 8 ||| (ath (padb n) (plen n - 8 + k)).toNat) : Nat) : Int))), (5, (.int .i64 ((plen n - 8 + k : Nat) : Int)))] (sc rfl (sc rfl (sc rfl (sc rfl sn)))) ?_
    refine T_he [0] [.row (.slice B3 (plen n) d4) 5 1 (plen n) ((padb n).map b8)] ⟨by decide, rfl⟩ ?_
    refine T_reg hF rfl ?_
    refine L_op rfl (op_pr (pr_move rfl rfl) rfl rfl ?_)
    refine L_op rfl (op_pr (pr_add (na_i64 (a := plen n - 8 + k) (b := 1) (by first | omega | (simp; done) | (simp; omega) | (simp [*]; done) | (simp [*]; omega))) rfl rfl rfl) rfl rfl ?_)
    refine L_op rfl (op_pr (pr_assign rfl rfl) rfl rfl ?_)
    refine L_nil ?_
    refine T_re [(0, (.int .i64 ((n : Nat) : Int))), (3, (.slice B3 (plen n) d4)), (4, (.int .i64 ((((8 * n / 2 ^ (8 * (8 - k))) * 2 ^ 8 ||| (ath (padb n) (plen n - 8 + k)).toNat) : Nat) : Int))), (5, (.int .i64 ((plen n - 8 + k + 1 : Nat) : Int)))] (sc rfl (sc rfl (sc rfl (sc rfl sn)))) ?_
    refine T_he [0] [.row (.slice B3 (plen n) d4) 5 1 (plen n) ((padb n).map b8)] ⟨by decide, rfl⟩ ?_
    refine T_slot 4 (.int .i64 ((((8 * n / 2 ^ (8 * (8 - k))) * 2 ^ 8 ||| (ath (padb n) (plen n - 8 + k)).toNat) : Nat) : Int)) (.int .i64 ((8 * n / 2 ^ (8 * (8 - (k + 1))) : Nat) : Int)) rfl (by rw [bits_step n k hnb (by omega)]) ?_
    refine T_slot 5 (.int .i64 ((plen n - 8 + k + 1 : Nat) : Int)) (.int .i64 ((plen n - 8 + (k + 1) : Nat) : Int)) rfl (by congr 2) ?_
    exact T_again (k + 1) (by first | trivial | ((try dsimp only); first | omega | (refine ⟨?_, ?_⟩ <;> omega) | (refine ⟨?_, ?_, ?_⟩ <;> omega) | (simp; done) | (simp; omega))) (by first | trivial | ((try dsimp only); first | omega | (refine ⟨?_, ?_⟩ <;> omega) | (refine ⟨?_, ?_, ?_⟩ <;> omega) | (simp; done) | (simp; omega))) (sc rfl (sc rfl (sc rfl (sc rfl sn)))) [0] ⟨by decide, rfl⟩
  · skip
    have hc_9 := of_decide_eq_false hc_9
    refine T_exit rfl ?_
    obtain rfl : 8 = k := by omega
    refine T_seq ?_
    refine T_seq ?_
    refine T_reg hF rfl ?_
    refine L_op rfl (op_pr (pr_assign rfl rfl) rfl rfl ?_)
    refine L_nil ?_
    refine T_re [(0, (.int .i64 ((n : Nat) : Int))), (3, (.slice B3 (plen n) d4)), (4, (.int .i64 ((8 * n / 2 ^ (8 * (8 - 8)) : Nat) : Int))), (6, (.int .i64 ((1 : Nat) : Int)))] (sc rfl (sc rfl (sc rfl (sc rfl sn)))) ?_
    refine T_he [0] [.row (.slice B3 (plen n) d4) 5 1 (plen n) ((padb n).map b8)] ⟨by decide, rfl⟩ ?_
    refine T_block ?_
    refine T_loop (T := Nat) (fun k => 1 ≤ k ∧ k ≤ plen n - 8) (fun k => [(0, (.int .i64 ((n : Nat) : Int))), (3, (.slice B3 (plen n) d4)), (4, (.int .i64 ((8 * n / 2 ^ (8 * (8 - 8)) : Nat) : Int))), (6, (.int .i64 ((k : Nat) : Int)))]) (fun k => [.row (.slice B3 (plen n) d4) 5 1 (plen n) ((padb n).map b8)]) (fun k => plen n - k) 1 (by first | trivial | ((try dsimp only); first | omega | (refine ⟨?_, ?_⟩ <;> omega) | (refine ⟨?_, ?_, ?_⟩ <;> omega) | (simp; done) | (simp; omega))) (sc rfl (sc rfl (sc rfl (sc rfl sn)))) [0] ⟨by decide, rfl⟩ ?_
    rintro k hp
    have hp : 1 ≤ k ∧ k ≤ plen n - 8 := hp
    refine T_re [(0, (.int .i64 ((n : Nat) : Int))), (3, (.slice B3 (plen n) d4)), (4, (.int .i64 ((8 * n / 2 ^ (8 * (8 - 8)) : Nat) : Int))), (6, (.int .i64 ((k : Nat) : Int)))] (sc rfl (sc rfl (sc rfl (sc rfl sn)))) ?_
    refine T_he [0] [.row (.slice B3 (plen n) d4) 5 1 (plen n) ((padb n).map b8)] ⟨by decide, rfl⟩ ?_
    refine T_seq ?_
    refine T_seq ?_
    refine T_reg hF rfl ?_
    refine L_op rfl (op_pr (pr_move rfl rfl) rfl rfl ?_)
    refine L_op rfl (op_pr (pr_move rfl rfl) rfl rfl ?_)
    refine L_op rfl (op_pr (pr_len_sl Try.underlying24 rfl rfl) rfl rfl ?_)
    refine L_op rfl (op_pr (pr_sub (ns_i64 (a := plen n) (b := 8) (by first | omega | (simp; done) | (simp; omega) | (simp [*]; done) | (simp [*]; omega)) (by first | omega | (simp; done) | (simp; omega) | (simp [*]; done) | (simp [*]; omega))) rfl rfl rfl) rfl rfl ?_)
    refine L_op rfl (op_pr (pr_cmp (bo := .lss) (nc_lt (a := k) (b := plen n - 8)) rfl rfl rfl rfl) rfl rfl ?_)
    refine L_nil ?_
    refine T_re [(0, (.int .i64 ((n : Nat) : Int))), (3, (.slice B3 (plen n) d4)), (4, (.int .i64 ((8 * n / 2 ^ (8 * (8 - 8)) : Nat) : Int))), (6, (.int .i64 ((k : Nat) : Int))), (52, (.bool (decide (k < plen n - 8))))] (sc rfl (sc rfl (sc rfl (sc rfl (sc rfl sn))))) ?_
    refine T_he [0] [.row (.slice B3 (plen n) d4) 5 1 (plen n) ((padb n).map b8)] ⟨by decide, rfl⟩ ?_
    refine T_cond (decide (k < plen n - 8)) rfl (fun hc_10 => ?_) (fun hc_10 => ?_)
    · skip
      have hc_10 := of_decide_eq_true hc_10
      refine T_skip ?_
      refine T_seq ?_
      refine T_block ?_
      refine T_seq ?_
      refine T_reg hF rfl ?_
      refine L_op rfl (op_pr (pr_move rfl rfl) rfl rfl ?_)
      refine L_op rfl (op_pr (pr_move rfl rfl) rfl rfl ?_)
      refine L_op rfl (op_pr (pr_ixs1 (j := k) (src_none (src_row 0 rfl)) (by first | omega | (simp; done) | (simp; omega) | (simp [*]; done) | (simp [*]; omega)) Try.underlying24 (by kernel_rfl) rfl rfl rfl) rfl rfl ?_)
      refine L_op rfl (op_ld (ld_src (m := k) (src_row 0 rfl) (get8 (by first | omega | (simp; done) | (simp; omega) | (simp [*]; done) | (simp [*]; omega))) Try.underlying5 rfl rfl rfl) rfl rfl ?_)
      refine L_op rfl (op_pr (pr_cmp (bo := .neq) (n8_bne (ath (padb n) k) (0#8)) rfl rfl rfl rfl) rfl rfl ?_)
      refine L_nil ?_
      refine T_re [(0, (.int .i64 ((n : Nat) : Int))), (3, (.slice B3 (plen n) d4)), (4, (.int .i64 ((8 * n / 2 ^ (8 * (8 - 8)) : Nat) : Int))), (6, (.int .i64 ((k : Nat) : Int))), (59, (.bool ((ath (padb n) k) != 0#8)))] (sc rfl (sc rfl (sc rfl (sc rfl (sc rfl sn))))) ?_
      refine T_he [0] [.row (.slice B3 (plen n) d4) 5 1 (plen n) ((padb n).map b8)] ⟨by decide, rfl⟩ ?_
      refine T_cond_no (t := ((ath (padb n) k) != 0#8)) rfl (by rw [padb_zero n k (by omega) (by omega)]; rfl) ?_
      refine T_skip ?_
      refine T_reg hF rfl ?_
      refine L_op rfl (op_pr (pr_move rfl rfl) rfl rfl ?_)
      refine L_op rfl (op_pr (pr_add (na_i64 (a := k) (b := 1) (by first | omega | (simp; done) | (simp; omega) | (simp [*]; done) | (simp [*]; omega))) rfl rfl rfl) rfl rfl ?_)
      refine L_op rfl (op_pr (pr_assign rfl rfl) rfl rfl ?_)
      refine L_nil ?_
      refine T_re [(0, (.int .i64 ((n : Nat) : Int))), (3, (.slice B3 (plen n) d4)), (4, (.int .i64 ((8 * n / 2 ^ (8 * (8 - 8)) : Nat) : Int))), (6, (.int .i64 ((k + 1 : Nat) : Int)))] (sc rfl (sc rfl (sc rfl (sc rfl sn)))) ?_
      refine T_he [0] [.row (.slice B3 (plen n) d4) 5 1 (plen n) ((padb n).map b8)] ⟨by decide, rfl⟩ ?_
      exact T_again (k + 1) (by first | trivial | ((try dsimp only); first | omega | (refine ⟨?_, ?_⟩ <;> omega) | (refine ⟨?_, ?_, ?_⟩ <;> omega) | (simp; done) | (simp; omega))) (by first | trivial | ((try dsimp only); first | omega | (refine ⟨?_, ?_⟩ <;> omega) | (refine ⟨?_, ?_, ?_⟩ <;> omega) | (simp; done) | (simp; omega))) (sc rfl (sc rfl (sc rfl (sc rfl sn)))) [0] ⟨by decide, rfl⟩
    · skip
      have hc_10 := of_decide_eq_false hc_10
      refine T_exit rfl ?_
      refine T_seq ?_
      refine T_reg hF rfl ?_
      refine L_op rfl (op_pr (pr_move rfl rfl) rfl rfl ?_)
      refine L_op rfl (op_pr (pr_move rfl rfl) rfl rfl ?_)
      refine L_op rfl (op_pr (pr_mul (nm_i64 (a := 8) (b := n) (by first | omega | (simp; done) | (simp; omega) | (simp [*]; done) | (simp [*]; omega))) rfl rfl rfl) rfl rfl ?_)
      refine L_op rfl (op_pr (pr_cmp (bo := .eql) (nc_eq (a := 8 * n / 2 ^ (8 * (8 - 8))) (b := 8 * n)) rfl rfl rfl rfl) rfl rfl ?_)
      refine L_op rfl (op_pr (pr_move rfl rfl) rfl rfl ?_)
      refine T_slot 64 (.bool (8 * n / 2 ^ (8 * (8 - 8)) == 8 * n)) (.bool true) rfl (congrArg _ (by rw [bits_all]; simp)) ?_
      refine L_op rfl (op_pr (pr_move rfl rfl) rfl rfl ?_)
      refine L_op rfl (op_pr (pr_move rfl rfl) rfl rfl ?_)
      refine L_op rfl (op_pr (pr_len_sl Try.underlying24 rfl rfl) rfl rfl ?_)
      refine L_op rfl (op_pr (pr_add (na_i64 (a := n) (b := plen n) (by first | omega | (simp; done) | (simp; omega) | (simp [*]; done) | (simp [*]; omega))) rfl rfl rfl) rfl rfl ?_)
      refine L_op rfl (op_pr (pr_rem (a := n + (plen n)) (b := 64) (by first | omega | (simp; done) | (simp; omega) | (simp [*]; done) | (simp [*]; omega)) rfl rfl rfl) rfl rfl ?_)
      refine L_op rfl (op_pr (pr_cmp (bo := .eql) (nc_eq (a := (n + (plen n)) % 64) (b := 0)) rfl rfl rfl rfl) rfl rfl ?_)
      refine L_op rfl (op_pr (pr_pick_t rfl rfl rfl) rfl rfl ?_)
      refine L_op rfl (op_pr (pr_assign rfl rfl) rfl rfl ?_)
      refine L_nil ?_
      refine T_re [(2, (.bool ((n + (plen n)) % 64 == 0)))] (sc rfl sn) ?_
      refine T_he [0] [.row (.slice B3 (plen n) d4) 5 1 (plen n) ((padb n).map b8)] ⟨by decide, rfl⟩ ?_
      refine T_ret ?_
      refine T_slot 2 (.bool ((n + (plen n)) % 64 == 0)) (.bool true) rfl (by rw [hmd]; rfl) ?_
      exact T_fin () (by first | trivial | omega | (simp; done)) (res1 rfl rfl) [] ⟨by decide, rfl⟩ rfl
set_option maxHeartbeats 4000000 in
theorem padz_f (z : Int) (w : World) (hO : HOK [] w) (hz : z < 0) : Calls Try.prog 20 [(.int .i64 z)].toArray w (Ret (T := Option Addr × Nat) [] w (fun ⟨B, d⟩ => True) (fun ⟨B, d⟩ => (.slice B (plen 0) d)) (fun ⟨B, d⟩ => [.row (.slice B (plen 0) d) 5 1 (plen 0) ((padb 0).map b8)])) := by
  have hF : Wid Fence.wide := wid_wide
  refine enter (c := _) Try.func20 rfl [] [(.int .i64 z)] [] (by rw [Try.ntmps20]; rfl) (own_rds hO rfl) ?_
  rw [Try.ntmps20]
  refine T_re [(0, (.int .i64 z))] (sc rfl sn) ?_
  refine T_he [] [] ⟨by decide, rfl⟩ ?_
  refine T_seq ?_
  refine T_reg hF rfl ?_
  refine L_op rfl (op_pr (pr_assign rfl rfl) rfl rfl ?_)
  refine L_nil ?_
  refine T_re [(0, (.int .i64 z))] (sc rfl sn) ?_
  refine T_he [] [] ⟨by decide, rfl⟩ ?_
  refine T_seq ?_
  refine T_reg hF rfl ?_
  refine L_op rfl (op_pr (pr_move rfl rfl) rfl rfl ?_)
  refine L_op rfl (op_pr ((pr_as (pr_max rfl rfl rfl) (zmax0 hz))) rfl rfl ?_)
  refine L_op rfl (op_pr (pr_assign rfl rfl) rfl rfl ?_)
  refine L_nil ?_
  refine T_re [(0, (.int .i64 ((0 : Nat) : Int)))] (sc rfl sn) ?_
  refine T_he [] [] ⟨by decide, rfl⟩ ?_
  refine T_seq ?_
  refine T_reg hF rfl ?_
  refine L_op rfl (op_bslice (e := 5) (zs := [(b8 (128#8))]) (qs := [(0, (b8 (128#8)))]) (fun _ => by kernel_rfl) rfl rfl rfl rfl (fun g1 => ?_))
  refine L_op rfl (op_pr (pr_move rfl rfl) rfl rfl ?_)
  refine L_op rfl (op_pr (pr_rem (a := 0) (b := 64) (by first | omega | (simp; done) | (simp; omega) | (simp [*]; done) | (simp [*]; omega)) rfl rfl rfl) rfl rfl ?_)
  refine L_op rfl (op_pr (pr_sub (ns_i64 (a := 119) (b := 0 % 64) (by first | omega | (simp; done) | (simp; omega) | (simp [*]; done) | (simp [*]; omega)) (by first | omega | (simp; done) | (simp; omega) | (simp [*]; done) | (simp [*]; omega))) rfl rfl rfl) rfl rfl ?_)
  refine L_op rfl (op_pr (pr_rem (a := 119 - (0 % 64)) (b := 64) (by first | omega | (simp; done) | (simp; omega) | (simp [*]; done) | (simp [*]; omega)) rfl rfl rfl) rfl rfl ?_)
  refine T_rowb 0 (zs := [(b8 (128#8))]) 1 1 1 rfl (by first | omega | (simp; done) | (simp; omega) | (simp [*]; done) | (simp [*]; omega)) (by first | omega | (simp; done) | (simp; omega) | (simp [*]; done) | (simp [*]; omega)) rfl rfl ?_
  refine L_op rfl (op_append0 (z := (b8 (0#8))) (bytes := 1) (m := (119 - (0 % 64)) % 64) 0 rfl Try.underlying24 Try.underlying3 (by kernel_rfl) rfl rfl (by first | omega | (simp; done) | (simp; omega) | (simp [*]; done) | (simp [*]; omega)) (by first | omega | (simp; done) | (simp; omega) | (simp [*]; done) | (simp [*]; omega)) rfl rfl rfl rfl rfl (fun A2 C3 => ?_))
  refine T_as 0 (.row (.slice A2 (1 + ((119 - (0 % 64)) % 64)) C3) 5 1 (1 + ((119 - (0 % 64)) % 64)) ([(b8 (128#8))] ++ List.replicate ((119 - (0 % 64)) % 64) (b8 (0#8)))) (.row (.slice A2 (1 + ((119 - (0 % 64)) % 64)) C3) 5 1 (1 + ((119 - (0 % 64)) % 64)) (([128#8] ++ (List.replicate ((119 - (0 % 64)) % 64) 0#8)).map b8)) rfl (by first | rfl | (congr 1; simp)) ?_
  refine L_op rfl (op_pr (pr_assign rfl rfl) rfl rfl ?_)
  refine L_nil ?_
  refine T_re [(0, (.int .i64 ((0 : Nat) : Int))), (3, (.slice A2 (1 + ((119 - (0 % 64)) % 64)) C3))] (sc rfl (sc rfl sn)) ?_
  refine T_he [0] [.row (.slice A2 (1 + ((119 - (0 % 64)) % 64)) C3) 5 1 (1 + ((119 - (0 % 64)) % 64)) (([128#8] ++ (List.replicate ((119 - (0 % 64)) % 64) 0#8)).map b8)] ⟨by decide, rfl⟩ ?_
  refine T_seq ?_
  refine T_reg hF rfl ?_
  refine L_op rfl (op_pr (pr_move rfl rfl) rfl rfl ?_)
  refine L_op rfl (op_pr (pr_move rfl rfl) rfl rfl ?_)
  refine L_op rfl (op_pr (pr_cv (nw64 0) Try.underlying3 Try.underlying62 rfl rfl) rfl rfl ?_)
  refine L_op rfl (op_pr (pr_mul (mul64 _ (8#64)) rfl rfl rfl) rfl rfl ?_)
  refine L_op rfl (op_call1 (vs := [(.slice A2 (1 + ((119 - (0 % 64)) % 64)) C3), (b64 ((BitVec.ofNat 64 0) * 8#64)), (.int .i64 ((8 : Nat) : Int))]) (cap := []) 0 rfl (fun w hw => putHigh_f ([128#8] ++ (List.replicate ((119 - (0 % 64)) % 64) 0#8)) ((BitVec.ofNat 64 0) * 8#64) 8 A2 (1 + ((119 - (0 % 64)) % 64)) C3 w (hw _ (List.mem_of_getElem? (i := 0) rfl)) (by first | omega | (simp; done) | (simp; omega) | (simp [*]; done) | (simp [*]; omega)) (by first | omega | (simp; done) | (simp; omega) | (simp [*]; done) | (simp [*]; omega))) (enters_of Try.func39 (by kernel_rfl) rfl) rfl rfl rfl rfl rfl (fun t4 q5 => ?_))
  obtain ⟨B6, d7⟩ := t4
  refine L_op rfl (op_pr (pr_assign rfl rfl) rfl rfl ?_)
  refine L_nil ?_
  refine T_re [(2, (.slice B6 ((1 + ((119 - (0 % 64)) % 64)) + 8) d7))] (sc rfl sn) ?_
  refine T_he [0] [.row (.slice B6 ((1 + ((119 - (0 % 64)) % 64)) + 8) d7) 5 1 ((1 + ((119 - (0 % 64)) % 64)) + 8) ((([128#8] ++ (List.replicate ((119 - (0 % 64)) % 64) 0#8)) ++ highb ((BitVec.ofNat 64 0) * 8#64) 8 8).map b8)] ⟨by decide, rfl⟩ ?_
  refine T_ret ?_
  refine T_slot 2 (.slice B6 ((1 + ((119 - (0 % 64)) % 64)) + 8) d7) (.slice B6 (plen 0) d7) rfl (by simp [plen]) ?_
  refine T_as 0 (.row (.slice B6 ((1 + ((119 - (0 % 64)) % 64)) + 8) d7) 5 1 ((1 + ((119 - (0 % 64)) % 64)) + 8) ((([128#8] ++ (List.replicate ((119 - (0 % 64)) % 64) 0#8)) ++ highb ((BitVec.ofNat 64 0) * 8#64) 8 8).map b8)) (.row (.slice B6 (plen 0) d7) 5 1 (plen 0) ((padb 0).map b8)) rfl (by simp [padb, plen]) ?_
  exact T_fin (B6, d7) (by first | trivial | omega | (simp; done)) (res1 rfl rfl) [0] ⟨by decide, rfl⟩ rfl
set_option maxHeartbeats 4000000 in
theorem words_nat_f (n : Nat) (w : World) (hO : HOK [] w) (hn : n ≤ 1099511627776) : Calls Try.prog 4 [(.int .i64 ((n : Nat) : Int))].toArray w (Ret (T := Unit) [] w (fun _ => True) (fun _ => (.bool true)) (fun _ => [])) := by
  have hge := plen_ge n
  have hle := plen_le n
  have hmd := plen_mod n
  have hpbl := padb_len n
  have hF : Wid Fence.wide := wid_wide
  refine enter (c := _) Try.func4 rfl [] [(.int .i64 ((n : Nat) : Int))] [] (by rw [Try.ntmps4]; rfl) (own_rds hO rfl) ?_
  rw [Try.ntmps4]
  refine T_re [(0, (.int .i64 ((n : Nat) : Int)))] (sc rfl sn) ?_
  refine T_he [] [] ⟨by decide, rfl⟩ ?_
  refine T_seq ?_
  refine T_reg hF rfl ?_
  refine L_op rfl (op_pr (pr_assign rfl rfl) rfl rfl ?_)
  refine L_nil ?_
  refine T_re [(0, (.int .i64 ((n : Nat) : Int)))] (sc rfl sn) ?_
  refine T_he [] [] ⟨by decide, rfl⟩ ?_
  refine T_seq ?_
  refine T_seq ?_
  refine T_reg hF rfl ?_
  refine L_op rfl (op_pr (pr_move rfl rfl) rfl rfl ?_)
  refine L_op rfl (op_pr (pr_cmp (bo := .gtr) (nc_lt (a := 1099511627776) (b := n)) rfl rfl rfl rfl) rfl rfl ?_)
  refine L_nil ?_
  refine T_re [(0, (.int .i64 ((n : Nat) : Int))), (6, (.bool (decide (1099511627776 < n))))] (sc rfl (sc rfl sn)) ?_
  refine T_he [] [] ⟨by decide, rfl⟩ ?_
  refine T_cond_no (t := decide (1099511627776 < n)) rfl (by simp; omega) ?_
  refine T_skip ?_
  refine T_seq ?_
  refine T_reg hF rfl ?_
  refine L_op rfl (op_pr (pr_move rfl rfl) rfl rfl ?_)
  refine L_op rfl (op_call0 (vs := [(.int .i64 ((n : Nat) : Int))]) (cap := []) (fun w hw => pad_f n w (hok_nil w) (by first | omega | (simp; done) | (simp; omega) | (simp [*]; done) | (simp [*]; omega))) (enters_of Try.func20 (by kernel_rfl) rfl) rfl rfl rfl rfl rfl (fun t1 q2 => ?_))
  obtain ⟨B3, d4⟩ := t1
  refine L_op rfl (op_pr (pr_assign rfl rfl) rfl rfl ?_)
  refine L_nil ?_
  refine T_re [(0, (.int .i64 ((n : Nat) : Int))), (3, (.slice B3 (plen n) d4))] (sc rfl (sc rfl sn)) ?_
  refine T_he [0] [.row (.slice B3 (plen n) d4) 5 1 (plen n) ((padb n).map b8)] ⟨by decide, rfl⟩ ?_
  refine T_seq ?_
  refine T_reg hF rfl ?_
  refine L_op rfl (op_pr (pr_move rfl rfl) rfl rfl ?_)
  refine L_op rfl (op_pr ((pr_as (pr_max rfl rfl rfl) (nmax (k := .i64) (a := 0) (b := n)))) rfl rfl ?_)
  refine T_slot 10 (.int .i64 ((max 0 n : Nat) : Int)) (.int .i64 ((n : Nat) : Int)) rfl (by simp) ?_
  refine L_op rfl (op_pr (pr_assign rfl rfl) rfl rfl ?_)
  refine L_nil ?_
  refine T_re [(0, (.int .i64 ((n : Nat) : Int))), (3, (.slice B3 (plen n) d4)), (4, (.int .i64 ((n : Nat) : Int)))] (sc rfl (sc rfl (sc rfl sn))) ?_
  refine T_he [0] [.row (.slice B3 (plen n) d4) 5 1 (plen n) ((padb n).map b8)] ⟨by decide, rfl⟩ ?_
  refine T_seq ?_
  refine T_reg hF rfl ?_
  refine L_op rfl (op_call0 (vs := []) (cap := []) (fun w hw => awake_f  w (hok_nil w) ) (enters_of Try.func15 (by kernel_rfl) rfl) rfl rfl rfl rfl rfl (fun t5 q6 => ?_))
  refine L_op rfl (op_pr (pr_move rfl rfl) rfl rfl ?_)
  refine L_op rfl (op_call0 (vs := []) (cap := []) (fun w hw => words_f  w (hok_nil w) ) (enters_of Try.func21 (by kernel_rfl) rfl) rfl rfl rfl rfl rfl (fun t7 q8 => ?_))
  refine L_op rfl (op_call0 (vs := []) (cap := []) (fun w hw => rwords_f  w (hok_nil w) ) (enters_of Try.func22 (by kernel_rfl) rfl) rfl rfl rfl rfl rfl (fun t9 q10 => ?_))
  refine L_op rfl (op_pr (pr_eqagg (bo := .eql) (c := true) (r := true) (fun d w => by kernel_rfl) (by kernel_rfl) rfl rfl rfl rfl rfl) rfl rfl ?_)
  refine L_op rfl (op_pr (pr_pick_t rfl rfl rfl) rfl rfl ?_)
  refine L_op rfl (op_pr (pr_move rfl rfl) rfl rfl ?_)
  refine L_op rfl (op_pr (pr_move rfl rfl) rfl rfl ?_)
  refine L_op rfl (op_pr (pr_move rfl rfl) rfl rfl ?_)
  refine L_op rfl (op_call0 (vs := [(.int .i64 ((n : Nat) : Int))]) (cap := []) (fun w hw => rpad_f n w (hok_nil w) (by first | omega | (simp; done) | (simp; omega) | (simp [*]; done) | (simp [*]; omega))) (enters_of Try.func24 (by kernel_rfl) rfl) rfl rfl rfl rfl rfl (fun t11 q12 => ?_))
  obtain ⟨B13, d14⟩ := t11
  refine L_op rfl (op_call0 (vs := [(.slice B3 (plen n) d4), (.slice B13 (plen n) d14)]) (cap := []) (fun w hw => bytes_f (padb n) (padb n) B3 (plen n) d4 B13 (plen n) d14 w (hok_cons ((src_row 1 rfl) w hw) (hok_cons ((src_row 0 rfl) w hw) (hok_nil w))) ) (enters_of Try.func23 (by kernel_rfl) rfl) rfl rfl rfl rfl rfl (fun t15 q16 => ?_))
  refine L_op rfl (op_pr (pr_pick_t rfl rfl rfl) rfl rfl ?_)
  refine L_op rfl (op_pr (pr_move rfl rfl) rfl rfl ?_)
  refine T_slot 23 (.bool (decide ((padb n) = (padb n)))) (.bool true) rfl (congrArg _ (by simp)) ?_
  refine L_op rfl (op_pr (pr_move rfl rfl) rfl rfl ?_)
  refine L_op rfl (op_pr (pr_rem (a := n) (b := 64) (by first | omega | (simp; done) | (simp; omega) | (simp [*]; done) | (simp [*]; omega)) rfl rfl rfl) rfl rfl ?_)
  refine L_op rfl (op_pr (pr_move rfl rfl) rfl rfl ?_)
  refine L_op rfl (op_pr (pr_len_sl Try.underlying24 rfl rfl) rfl rfl ?_)
  refine L_op rfl (op_pr (pr_add (na_i64 (a := n % 64) (b := plen n) (by first | omega | (simp; done) | (simp; omega) | (simp [*]; done) | (simp [*]; omega))) rfl rfl rfl) rfl rfl ?_)
  refine L_op rfl (op_pr (pr_rem (a := n % 64 + (plen n)) (b := 64) (by first | omega | (simp; done) | (simp; omega) | (simp [*]; done) | (simp [*]; omega)) rfl rfl rfl) rfl rfl ?_)
  refine L_op rfl (op_pr (pr_cmp (bo := .eql) (nc_eq (a := (n % 64 + (plen n)) % 64) (b := 0)) rfl rfl rfl rfl) rfl rfl ?_)
  refine L_op rfl (op_pr (pr_pick_t rfl rfl rfl) rfl rfl ?_)
  refine L_op rfl (op_pr (pr_move rfl rfl) rfl rfl ?_)
  refine T_slot 32 (.bool ((n % 64 + (plen n)) % 64 == 0)) (.bool true) rfl (congrArg _ (by simp; omega)) ?_
  refine L_op rfl (op_pr (pr_move rfl rfl) rfl rfl ?_)
  refine L_op rfl (op_pr (pr_len_sl Try.underlying24 rfl rfl) rfl rfl ?_)
  refine L_op rfl (op_pr (pr_cmp (bo := .geq) (nc_le (a := 9) (b := plen n)) rfl rfl rfl rfl) rfl rfl ?_)
  refine L_op rfl (op_pr (pr_pick_t rfl rfl rfl) rfl rfl ?_)
  refine L_op rfl (op_pr (pr_move rfl rfl) rfl rfl ?_)
  refine T_slot 37 (.bool (decide (9 ≤ plen n))) (.bool true) rfl (congrArg _ (by simp; omega)) ?_
  refine L_op rfl (op_pr (pr_move rfl rfl) rfl rfl ?_)
  refine L_op rfl (op_pr (pr_len_sl Try.underlying24 rfl rfl) rfl rfl ?_)
  refine L_op rfl (op_pr (pr_cmp (bo := .leq) (nc_le (a := plen n) (b := 72)) rfl rfl rfl rfl) rfl rfl ?_)
  refine L_op rfl (op_pr (pr_pick_t rfl rfl rfl) rfl rfl ?_)
  refine L_op rfl (op_pr (pr_assign rfl rfl) rfl rfl ?_)
  refine L_nil ?_
  refine T_re [(2, (.bool (decide (plen n ≤ 72))))] (sc rfl sn) ?_
  refine T_he [0, 1] [.row (.slice B13 (plen n) d14) 5 1 (plen n) ((padb n).map b8), .row (.slice B3 (plen n) d4) 5 1 (plen n) ((padb n).map b8)] ⟨by decide, rfl⟩ ?_
  refine T_ret ?_
  refine T_slot 2 (.bool (decide (plen n ≤ 72))) (.bool true) rfl (by simp; omega) ?_
  exact T_fin () (by first | trivial | omega | (simp; done)) (res1 rfl rfl) [] ⟨by decide, rfl⟩ rfl
set_option maxHeartbeats 4000000 in
theorem words_big_f (n : Nat) (w : World) (hO : HOK [] w) (hn : 1099511627776 < n) : Calls Try.prog 4 [(.int .i64 ((n : Nat) : Int))].toArray w (Ret (T := Unit) [] w (fun _ => True) (fun _ => (.bool true)) (fun _ => [])) := by
  have hge := plen_ge 1099511627776
  have hle := plen_le 1099511627776
  have hmd := plen_mod 1099511627776
  have hpbl := padb_len 1099511627776
  have hF : Wid Fence.wide := wid_wide
  refine enter (c := _) Try.func4 rfl [] [(.int .i64 ((n : Nat) : Int))] [] (by rw [Try.ntmps4]; rfl) (own_rds hO rfl) ?_
  rw [Try.ntmps4]
  refine T_re [(0, (.int .i64 ((n : Nat) : Int)))] (sc rfl sn) ?_
  refine T_he [] [] ⟨by decide, rfl⟩ ?_
  refine T_seq ?_
  refine T_reg hF rfl ?_
  refine L_op rfl (op_pr (pr_assign rfl rfl) rfl rfl ?_)
  refine L_nil ?_
  refine T_re [(0, (.int .i64 ((n : Nat) : Int)))] (sc rfl sn) ?_
  refine T_he [] [] ⟨by decide, rfl⟩ ?_
  refine T_seq ?_
  refine T_seq ?_
  refine T_reg hF rfl ?_
  refine L_op rfl (op_pr (pr_move rfl rfl) rfl rfl ?_)
  refine L_op rfl (op_pr (pr_cmp (bo := .gtr) (nc_lt (a := 1099511627776) (b := n)) rfl rfl rfl rfl) rfl rfl ?_)
  refine L_nil ?_
  refine T_re [(0, (.int .i64 ((n : Nat) : Int))), (6, (.bool (decide (1099511627776 < n))))] (sc rfl (sc rfl sn)) ?_
  refine T_he [] [] ⟨by decide, rfl⟩ ?_
  refine T_cond_yes (t := decide (1099511627776 < n)) rfl (by simp; omega) ?_
  refine T_reg hF rfl ?_
  refine L_op rfl (op_pr (pr_assign rfl rfl) rfl rfl ?_)
  refine L_nil ?_
  refine T_re [(0, (.int .i64 ((1099511627776 : Nat) : Int)))] (sc rfl sn) ?_
  refine T_he [] [] ⟨by decide, rfl⟩ ?_
  refine T_seq ?_
  refine T_reg hF rfl ?_
  refine L_op rfl (op_pr (pr_move rfl rfl) rfl rfl ?_)
  refine L_op rfl (op_call0 (vs := [(.int .i64 ((1099511627776 : Nat) : Int))]) (cap := []) (fun w hw => pad_f 1099511627776 w (hok_nil w) (by first | omega | (simp; done) | (simp; omega) | (simp [*]; done) | (simp [*]; omega))) (enters_of Try.func20 (by kernel_rfl) rfl) rfl rfl rfl rfl rfl (fun t1 q2 => ?_))
  obtain ⟨B3, d4⟩ := t1
  refine L_op rfl (op_pr (pr_assign rfl rfl) rfl rfl ?_)
  refine L_nil ?_
  refine T_re [(0, (.int .i64 ((1099511627776 : Nat) : Int))), (3, (.slice B3 (plen 1099511627776) d4))] (sc rfl (sc rfl sn)) ?_
  refine T_he [0] [.row (.slice B3 (plen 1099511627776) d4) 5 1 (plen 1099511627776) ((padb 1099511627776).map b8)] ⟨by decide, rfl⟩ ?_
  refine T_seq ?_
  refine T_reg hF rfl ?_
  refine L_op rfl (op_pr (pr_move rfl rfl) rfl rfl ?_)
  refine L_op rfl (op_pr ((pr_as (pr_max rfl rfl rfl) (nmax (k := .i64) (a := 0) (b := 1099511627776)))) rfl rfl ?_)
  refine T_slot 10 (.int .i64 ((max 0 1099511627776 : Nat) : Int)) (.int .i64 ((1099511627776 : Nat) : Int)) rfl (by simp) ?_
  refine L_op rfl (op_pr (pr_assign rfl rfl) rfl rfl ?_)
  refine L_nil ?_
  refine T_re [(0, (.int .i64 ((1099511627776 : Nat) : Int))), (3, (.slice B3 (plen 1099511627776) d4)), (4, (.int .i64 ((1099511627776 : Nat) : Int)))] (sc rfl (sc rfl (sc rfl sn))) ?_
  refine T_he [0] [.row (.slice B3 (plen 1099511627776) d4) 5 1 (plen 1099511627776) ((padb 1099511627776).map b8)] ⟨by decide, rfl⟩ ?_
  refine T_seq ?_
  refine T_reg hF rfl ?_
  refine L_op rfl (op_call0 (vs := []) (cap := []) (fun w hw => awake_f  w (hok_nil w) ) (enters_of Try.func15 (by kernel_rfl) rfl) rfl rfl rfl rfl rfl (fun t5 q6 => ?_))
  refine L_op rfl (op_pr (pr_move rfl rfl) rfl rfl ?_)
  refine L_op rfl (op_call0 (vs := []) (cap := []) (fun w hw => words_f  w (hok_nil w) ) (enters_of Try.func21 (by kernel_rfl) rfl) rfl rfl rfl rfl rfl (fun t7 q8 => ?_))
  refine L_op rfl (op_call0 (vs := []) (cap := []) (fun w hw => rwords_f  w (hok_nil w) ) (enters_of Try.func22 (by kernel_rfl) rfl) rfl rfl rfl rfl rfl (fun t9 q10 => ?_))
  refine L_op rfl (op_pr (pr_eqagg (bo := .eql) (c := true) (r := true) (fun d w => by kernel_rfl) (by kernel_rfl) rfl rfl rfl rfl rfl) rfl rfl ?_)
  refine L_op rfl (op_pr (pr_pick_t rfl rfl rfl) rfl rfl ?_)
  refine L_op rfl (op_pr (pr_move rfl rfl) rfl rfl ?_)
  refine L_op rfl (op_pr (pr_move rfl rfl) rfl rfl ?_)
  refine L_op rfl (op_pr (pr_move rfl rfl) rfl rfl ?_)
  refine L_op rfl (op_call0 (vs := [(.int .i64 ((1099511627776 : Nat) : Int))]) (cap := []) (fun w hw => rpad_f 1099511627776 w (hok_nil w) (by first | omega | (simp; done) | (simp; omega) | (simp [*]; done) | (simp [*]; omega))) (enters_of Try.func24 (by kernel_rfl) rfl) rfl rfl rfl rfl rfl (fun t11 q12 => ?_))
  obtain ⟨B13, d14⟩ := t11
  refine L_op rfl (op_call0 (vs := [(.slice B3 (plen 1099511627776) d4), (.slice B13 (plen 1099511627776) d14)]) (cap := []) (fun w hw => bytes_f (padb 1099511627776) (padb 1099511627776) B3 (plen 1099511627776) d4 B13 (plen 1099511627776) d14 w (hok_cons ((src_row 1 rfl) w hw) (hok_cons ((src_row 0 rfl) w hw) (hok_nil w))) ) (enters_of Try.func23 (by kernel_rfl) rfl) rfl rfl rfl rfl rfl (fun t15 q16 => ?_))
  refine L_op rfl (op_pr (pr_pick_t rfl rfl rfl) rfl rfl ?_)
  refine L_op rfl (op_pr (pr_move rfl rfl) rfl rfl ?_)
  refine T_slot 23 (.bool (decide ((padb 1099511627776) = (padb 1099511627776)))) (.bool true) rfl (congrArg _ (by simp)) ?_
  refine L_op rfl (op_pr (pr_move rfl rfl) rfl rfl ?_)
  refine L_op rfl (op_pr (pr_rem (a := 1099511627776) (b := 64) (by first | omega | (simp; done) | (simp; omega) | (simp [*]; done) | (simp [*]; omega)) rfl rfl rfl) rfl rfl ?_)
  refine L_op rfl (op_pr (pr_move rfl rfl) rfl rfl ?_)
  refine L_op rfl (op_pr (pr_len_sl Try.underlying24 rfl rfl) rfl rfl ?_)
  refine L_op rfl (op_pr (pr_add (na_i64 (a := 1099511627776 % 64) (b := plen 1099511627776) (by first | omega | (simp; done) | (simp; omega) | (simp [*]; done) | (simp [*]; omega))) rfl rfl rfl) rfl rfl ?_)
  refine L_op rfl (op_pr (pr_rem (a := 1099511627776 % 64 + (plen 1099511627776)) (b := 64) (by first | omega | (simp; done) | (simp; omega) | (simp [*]; done) | (simp [*]; omega)) rfl rfl rfl) rfl rfl ?_)
  refine L_op rfl (op_pr (pr_cmp (bo := .eql) (nc_eq (a := (1099511627776 % 64 + (plen 1099511627776)) % 64) (b := 0)) rfl rfl rfl rfl) rfl rfl ?_)
  refine L_op rfl (op_pr (pr_pick_t rfl rfl rfl) rfl rfl ?_)
  refine L_op rfl (op_pr (pr_move rfl rfl) rfl rfl ?_)
  refine T_slot 32 (.bool ((1099511627776 % 64 + (plen 1099511627776)) % 64 == 0)) (.bool true) rfl (congrArg _ (by simp; omega)) ?_
  refine L_op rfl (op_pr (pr_move rfl rfl) rfl rfl ?_)
  refine L_op rfl (op_pr (pr_len_sl Try.underlying24 rfl rfl) rfl rfl ?_)
  refine L_op rfl (op_pr (pr_cmp (bo := .geq) (nc_le (a := 9) (b := plen 1099511627776)) rfl rfl rfl rfl) rfl rfl ?_)
  refine L_op rfl (op_pr (pr_pick_t rfl rfl rfl) rfl rfl ?_)
  refine L_op rfl (op_pr (pr_move rfl rfl) rfl rfl ?_)
  refine T_slot 37 (.bool (decide (9 ≤ plen 1099511627776))) (.bool true) rfl (congrArg _ (by simp; omega)) ?_
  refine L_op rfl (op_pr (pr_move rfl rfl) rfl rfl ?_)
  refine L_op rfl (op_pr (pr_len_sl Try.underlying24 rfl rfl) rfl rfl ?_)
  refine L_op rfl (op_pr (pr_cmp (bo := .leq) (nc_le (a := plen 1099511627776) (b := 72)) rfl rfl rfl rfl) rfl rfl ?_)
  refine L_op rfl (op_pr (pr_pick_t rfl rfl rfl) rfl rfl ?_)
  refine L_op rfl (op_pr (pr_assign rfl rfl) rfl rfl ?_)
  refine L_nil ?_
  refine T_re [(2, (.bool (decide (plen 1099511627776 ≤ 72))))] (sc rfl sn) ?_
  refine T_he [0, 1] [.row (.slice B13 (plen 1099511627776) d14) 5 1 (plen 1099511627776) ((padb 1099511627776).map b8), .row (.slice B3 (plen 1099511627776) d4) 5 1 (plen 1099511627776) ((padb 1099511627776).map b8)] ⟨by decide, rfl⟩ ?_
  refine T_ret ?_
  refine T_slot 2 (.bool (decide (plen 1099511627776 ≤ 72))) (.bool true) rfl (by simp; omega) ?_
  exact T_fin () (by first | trivial | omega | (simp; done)) (res1 rfl rfl) [] ⟨by decide, rfl⟩ rfl
set_option maxHeartbeats 4000000 in
theorem words_neg_f (z : Int) (w : World) (hO : HOK [] w) (hz : z < 0) : Calls Try.prog 4 [(.int .i64 z)].toArray w (Ret (T := Unit) [] w (fun _ => True) (fun _ => (.bool true)) (fun _ => [])) := by
  have hge := plen_ge 0
  have hle := plen_le 0
  have hmd := plen_mod 0
  have hpbl := padb_len 0
  have hF : Wid Fence.wide := wid_wide
  refine enter (c := _) Try.func4 rfl [] [(.int .i64 z)] [] (by rw [Try.ntmps4]; rfl) (own_rds hO rfl) ?_
  rw [Try.ntmps4]
  refine T_re [(0, (.int .i64 z))] (sc rfl sn) ?_
  refine T_he [] [] ⟨by decide, rfl⟩ ?_
  refine T_seq ?_
  refine T_reg hF rfl ?_
  refine L_op rfl (op_pr (pr_assign rfl rfl) rfl rfl ?_)
  refine L_nil ?_
  refine T_re [(0, (.int .i64 z))] (sc rfl sn) ?_
  refine T_he [] [] ⟨by decide, rfl⟩ ?_
  refine T_seq ?_
  refine T_seq ?_
  refine T_reg hF rfl ?_
  refine L_op rfl (op_pr (pr_move rfl rfl) rfl rfl ?_)
  refine L_op rfl (op_pr (pr_cmp (bo := .gtr) (k := .i64) (a := z) (b := ((1099511627776 : Nat) : Int)) (c := decide (((1099511627776 : Nat) : Int) < z)) rfl rfl rfl rfl rfl) rfl rfl ?_)
  refine L_nil ?_
  refine T_re [(0, (.int .i64 z)), (6, (.bool (decide (((1099511627776 : Nat) : Int) < z))))] (sc rfl (sc rfl sn)) ?_
  refine T_he [] [] ⟨by decide, rfl⟩ ?_
  refine T_cond_no (t := decide (((1099511627776 : Nat) : Int) < z)) rfl (by simp; omega) ?_
  refine T_skip ?_
  refine T_seq ?_
  refine T_reg hF rfl ?_
  refine L_op rfl (op_pr (pr_move rfl rfl) rfl rfl ?_)
  refine L_op rfl (op_call0 (vs := [(.int .i64 z)]) (cap := []) (fun w hw => padz_f z w (hok_nil w) (by first | omega | (simp; done) | (simp; omega) | (simp [*]; done) | (simp [*]; omega))) (enters_of Try.func20 (by kernel_rfl) rfl) rfl rfl rfl rfl rfl (fun t1 q2 => ?_))
  obtain ⟨B3, d4⟩ := t1
  refine L_op rfl (op_pr (pr_assign rfl rfl) rfl rfl ?_)
  refine L_nil ?_
  refine T_re [(0, (.int .i64 z)), (3, (.slice B3 (plen 0) d4))] (sc rfl (sc rfl sn)) ?_
  refine T_he [0] [.row (.slice B3 (plen 0) d4) 5 1 (plen 0) ((padb 0).map b8)] ⟨by decide, rfl⟩ ?_
  refine T_seq ?_
  refine T_reg hF rfl ?_
  refine L_op rfl (op_pr (pr_move rfl rfl) rfl rfl ?_)
  refine L_op rfl (op_pr ((pr_as (pr_max rfl rfl rfl) (zmax0' hz))) rfl rfl ?_)
  refine L_op rfl (op_pr (pr_assign rfl rfl) rfl rfl ?_)
  refine L_nil ?_
  refine T_re [(0, (.int .i64 z)), (3, (.slice B3 (plen 0) d4)), (4, (.int .i64 ((0 : Nat) : Int)))] (sc rfl (sc rfl (sc rfl sn))) ?_
  refine T_he [0] [.row (.slice B3 (plen 0) d4) 5 1 (plen 0) ((padb 0).map b8)] ⟨by decide, rfl⟩ ?_
  refine T_seq ?_
  refine T_reg hF rfl ?_
  refine L_op rfl (op_call0 (vs := []) (cap := []) (fun w hw => awake_f  w (hok_nil w) ) (enters_of Try.func15 (by kernel_rfl) rfl) rfl rfl rfl rfl rfl (fun t5 q6 => ?_))
  refine L_op rfl (op_pr (pr_move rfl rfl) rfl rfl ?_)
  refine L_op rfl (op_call0 (vs := []) (cap := []) (fun w hw => words_f  w (hok_nil w) ) (enters_of Try.func21 (by kernel_rfl) rfl) rfl rfl rfl rfl rfl (fun t7 q8 => ?_))
  refine L_op rfl (op_call0 (vs := []) (cap := []) (fun w hw => rwords_f  w (hok_nil w) ) (enters_of Try.func22 (by kernel_rfl) rfl) rfl rfl rfl rfl rfl (fun t9 q10 => ?_))
  refine L_op rfl (op_pr (pr_eqagg (bo := .eql) (c := true) (r := true) (fun d w => by kernel_rfl) (by kernel_rfl) rfl rfl rfl rfl rfl) rfl rfl ?_)
  refine L_op rfl (op_pr (pr_pick_t rfl rfl rfl) rfl rfl ?_)
  refine L_op rfl (op_pr (pr_move rfl rfl) rfl rfl ?_)
  refine L_op rfl (op_pr (pr_move rfl rfl) rfl rfl ?_)
  refine L_op rfl (op_pr (pr_move rfl rfl) rfl rfl ?_)
  refine L_op rfl (op_call0 (vs := [(.int .i64 z)]) (cap := []) (fun w hw => rpadz_f z w (hok_nil w) (by first | omega | (simp; done) | (simp; omega) | (simp [*]; done) | (simp [*]; omega))) (enters_of Try.func24 (by kernel_rfl) rfl) rfl rfl rfl rfl rfl (fun t11 q12 => ?_))
  obtain ⟨B13, d14⟩ := t11
  refine L_op rfl (op_call0 (vs := [(.slice B3 (plen 0) d4), (.slice B13 (plen 0) d14)]) (cap := []) (fun w hw => bytes_f (padb 0) (padb 0) B3 (plen 0) d4 B13 (plen 0) d14 w (hok_cons ((src_row 1 rfl) w hw) (hok_cons ((src_row 0 rfl) w hw) (hok_nil w))) ) (enters_of Try.func23 (by kernel_rfl) rfl) rfl rfl rfl rfl rfl (fun t15 q16 => ?_))
  refine L_op rfl (op_pr (pr_pick_t rfl rfl rfl) rfl rfl ?_)
  refine L_op rfl (op_pr (pr_move rfl rfl) rfl rfl ?_)
  refine T_slot 23 (.bool (decide ((padb 0) = (padb 0)))) (.bool true) rfl (congrArg _ (by simp)) ?_
  refine L_op rfl (op_pr (pr_move rfl rfl) rfl rfl ?_)
  refine L_op rfl (op_pr (pr_rem (a := 0) (b := 64) (by first | omega | (simp; done) | (simp; omega) | (simp [*]; done) | (simp [*]; omega)) rfl rfl rfl) rfl rfl ?_)
  refine L_op rfl (op_pr (pr_move rfl rfl) rfl rfl ?_)
  refine L_op rfl (op_pr (pr_len_sl Try.underlying24 rfl rfl) rfl rfl ?_)
  refine L_op rfl (op_pr (pr_add (na_i64 (a := 0 % 64) (b := plen 0) (by first | omega | (simp; done) | (simp; omega) | (simp [*]; done) | (simp [*]; omega))) rfl rfl rfl) rfl rfl ?_)
  refine L_op rfl (op_pr (pr_rem (a := 0 % 64 + (plen 0)) (b := 64) (by first | omega | (simp; done) | (simp; omega) | (simp [*]; done) | (simp [*]; omega)) rfl rfl rfl) rfl rfl ?_)
  refine L_op rfl (op_pr (pr_cmp (bo := .eql) (nc_eq (a := (0 % 64 + (plen 0)) % 64) (b := 0)) rfl rfl rfl rfl) rfl rfl ?_)
  refine L_op rfl (op_pr (pr_pick_t rfl rfl rfl) rfl rfl ?_)
  refine L_op rfl (op_pr (pr_move rfl rfl) rfl rfl ?_)
  refine T_slot 32 (.bool ((0 % 64 + (plen 0)) % 64 == 0)) (.bool true) rfl (congrArg _ (by simp; omega)) ?_
  refine L_op rfl (op_pr (pr_move rfl rfl) rfl rfl ?_)
  refine L_op rfl (op_pr (pr_len_sl Try.underlying24 rfl rfl) rfl rfl ?_)
  refine L_op rfl (op_pr (pr_cmp (bo := .geq) (nc_le (a := 9) (b := plen 0)) rfl rfl rfl rfl) rfl rfl ?_)
  refine L_op rfl (op_pr (pr_pick_t rfl rfl rfl) rfl rfl ?_)
  refine L_op rfl (op_pr (pr_move rfl rfl) rfl rfl ?_)
  refine T_slot 37 (.bool (decide (9 ≤ plen 0))) (.bool true) rfl (congrArg _ (by simp; omega)) ?_
  refine L_op rfl (op_pr (pr_move rfl rfl) rfl rfl ?_)
  refine L_op rfl (op_pr (pr_len_sl Try.underlying24 rfl rfl) rfl rfl ?_)
  refine L_op rfl (op_pr (pr_cmp (bo := .leq) (nc_le (a := plen 0) (b := 72)) rfl rfl rfl rfl) rfl rfl ?_)
  refine L_op rfl (op_pr (pr_pick_t rfl rfl rfl) rfl rfl ?_)
  refine L_op rfl (op_pr (pr_assign rfl rfl) rfl rfl ?_)
  refine L_nil ?_
  refine T_re [(2, (.bool (decide (plen 0 ≤ 72))))] (sc rfl sn) ?_
  refine T_he [0, 1] [.row (.slice B13 (plen 0) d14) 5 1 (plen 0) ((padb 0).map b8), .row (.slice B3 (plen 0) d4) 5 1 (plen 0) ((padb 0).map b8)] ⟨by decide, rfl⟩ ?_
  refine T_ret ?_
  refine T_slot 2 (.bool (decide (plen 0 ≤ 72))) (.bool true) rfl (by simp; omega) ?_
  exact T_fin () (by first | trivial | omega | (simp; done)) (res1 rfl rfl) [] ⟨by decide, rfl⟩ rfl
set_option maxHeartbeats 4000000 in
theorem shaEdges_f (z : Int) (x : BitVec 8) (w : World) (hO : HOK [] w)  : Calls Try.prog 5 [(.int .i64 z), (b8 x)].toArray w (Ret (T := Unit) [] w (fun _ => True) (fun _ => (.bool true)) (fun _ => [])) := by
  have hF : Wid Fence.wide := wid_wide
  refine enter (c := _) Try.func5 rfl [] [(.int .i64 z), (b8 x)] [] (by rw [Try.ntmps5]; rfl) (own_rds hO rfl) ?_
  rw [Try.ntmps5]
  refine T_re [(0, (.int .i64 z)), (1, (b8 x))] (sc rfl (sc rfl sn)) ?_
  refine T_he [] [] ⟨by decide, rfl⟩ ?_
  refine T_seq ?_
  refine T_reg hF rfl ?_
  refine L_op rfl (op_pr (pr_assign rfl rfl) rfl rfl ?_)
  refine L_nil ?_
  refine T_re [(0, (.int .i64 z)), (1, (b8 x))] (sc rfl (sc rfl sn)) ?_
  refine T_he [] [] ⟨by decide, rfl⟩ ?_
  refine T_seq ?_
  refine T_reg hF rfl ?_
  refine L_op rfl (op_pr (pr_move rfl rfl) rfl rfl ?_)
  refine L_op rfl (op_pr (pr_cv (zc_u64 z) Try.underlying3 Try.underlying37 rfl rfl) rfl rfl ?_)
  refine L_op rfl (op_pr (pr_rem (a := (BitVec.ofInt 64 z).toNat) (b := 200) (by first | omega | (simp; done) | (simp; omega) | (simp [*]; done) | (simp [*]; omega)) rfl rfl rfl) rfl rfl ?_)
  refine L_op rfl (op_pr (pr_cv (ni_i64 (a := ((BitVec.ofInt 64 z).toNat) % 200) (by first | omega | (simp; done) | (simp; omega) | (simp [*]; done) | (simp [*]; omega))) Try.underlying37 Try.underlying3 rfl rfl) rfl rfl ?_)
  refine L_op rfl (op_pr (pr_assign rfl rfl) rfl rfl ?_)
  refine L_nil ?_
  obtain ⟨n, hn_n⟩ : ∃ x : Nat, ((BitVec.ofInt 64 z).toNat) % 200 = x := ⟨_, rfl⟩
  have hnb : n < 200 := by omega
  refine T_slot 0 (.int .i64 ((((BitVec.ofInt 64 z).toNat) % 200 : Nat) : Int)) (.int .i64 ((n : Nat) : Int)) rfl (by rw [hn_n]) ?_
  refine T_re [(0, (.int .i64 ((n : Nat) : Int))), (1, (b8 x))] (sc rfl (sc rfl sn)) ?_
  refine T_he [] [] ⟨by decide, rfl⟩ ?_
  refine T_seq ?_
  refine T_reg hF rfl ?_
  refine L_op rfl (op_pr (pr_move rfl rfl) rfl rfl ?_)
  refine L_op rfl (op_make (z := (b8 (0#8))) (n := n) (c := n) Try.underlying24 (bytes := 1) (by kernel_rfl) rfl (by first | omega | (simp; done) | (simp; omega) | (simp [*]; done) | (simp [*]; omega)) (by first | omega | (simp; done) | (simp; omega) | (simp [*]; done) | (simp [*]; omega)) (by first | omega | (simp; done) | (simp; omega) | (simp [*]; done) | (simp [*]; omega)) rfl rfl rfl rfl rfl (fun g1 => ?_))
  refine T_as 0 _ (.blk g1 5 ((List.replicate n 0#8).map b8)) rfl (by rw [List.map_replicate]) ?_
  refine L_op rfl (op_pr (pr_assign rfl rfl) rfl rfl ?_)
  refine L_nil ?_
  refine T_re [(0, (.int .i64 ((n : Nat) : Int))), (1, (b8 x)), (5, (.slice (some ⟨g1, 0, none⟩) n n))] (sc rfl (sc rfl (sc rfl sn))) ?_
  refine T_he [0] [.blk g1 5 ((List.replicate n 0#8).map b8)] ⟨by decide, rfl⟩ ?_
  refine T_seq ?_
  refine T_seq ?_
  refine T_reg hF rfl ?_
  refine L_op rfl (op_pr (pr_move rfl rfl) rfl rfl ?_)
  refine L_op rfl (op_pr (pr_len_sl Try.underlying24 rfl rfl) rfl rfl ?_)
  refine L_op rfl (op_pr (pr_move rfl rfl) rfl rfl ?_)
  refine L_nil ?_
  refine T_re [(0, (.int .i64 ((n : Nat) : Int))), (1, (b8 x)), (5, (.slice (some ⟨g1, 0, none⟩) n n)), (14, (.int .i64 ((n : Nat) : Int))), (15, (.int .i64 ((0 : Nat) : Int)))] (sc rfl (sc rfl (sc rfl (sc rfl (sc rfl sn))))) ?_
  refine T_he [0] [.blk g1 5 ((List.replicate n 0#8).map b8)] ⟨by decide, rfl⟩ ?_
  refine T_block ?_
  refine T_loop (T := Nat × List (BitVec 8)) (fun ⟨k, bs⟩ => k ≤ n ∧ bs.length = n) (fun ⟨k, bs⟩ => [(0, (.int .i64 ((n : Nat) : Int))), (1, (b8 x)), (5, (.slice (some ⟨g1, 0, none⟩) n n)), (14, (.int .i64 ((n : Nat) : Int))), (15, (.int .i64 ((k : Nat) : Int)))]) (fun ⟨k, bs⟩ => [.blk g1 5 (bs.map b8)]) (fun ⟨k, bs⟩ => n - k) (0, List.replicate n 0#8) (by simp) (sc rfl (sc rfl (sc rfl (sc rfl (sc rfl sn))))) [0] ⟨by decide, rfl⟩ ?_
  rintro ⟨k, bs⟩ hp
  have hp : k ≤ n ∧ bs.length = n := hp
  have hbl := hp.2
  have hkk : k * k ≤ 200 * 200 := Nat.mul_le_mul (by omega) (by omega)
  have hsl := shasum_len bs
  refine T_re [(0, (.int .i64 ((n : Nat) : Int))), (1, (b8 x)), (5, (.slice (some ⟨g1, 0, none⟩) n n)), (14, (.int .i64 ((n : Nat) : Int))), (15, (.int .i64 ((k : Nat) : Int)))] (sc rfl (sc rfl (sc rfl (sc rfl (sc rfl sn))))) ?_
  refine T_he [0] [.blk g1 5 (bs.map b8)] ⟨by decide, rfl⟩ ?_
  refine T_seq ?_
  refine T_reg hF rfl ?_
  refine L_op rfl (op_pr (pr_cmp (bo := .lss) (nc_lt (a := k) (b := n)) rfl rfl rfl rfl) rfl rfl ?_)
  refine L_nil ?_
  refine T_re [(0, (.int .i64 ((n : Nat) : Int))), (1, (b8 x)), (5, (.slice (some ⟨g1, 0, none⟩) n n)), (14, (.int .i64 ((n : Nat) : Int))), (15, (.int .i64 ((k : Nat) : Int))), (16, (.bool (decide (k < n))))] (sc rfl (sc rfl (sc rfl (sc rfl (sc rfl (sc rfl sn)))))) ?_
  refine T_he [0] [.blk g1 5 (bs.map b8)] ⟨by decide, rfl⟩ ?_
  refine T_seq ?_
  refine T_cond (decide (k < n)) rfl (fun hc_2 => ?_) (fun hc_2 => ?_)
  · skip
    have hc_2 := of_decide_eq_true hc_2
    refine T_skip ?_
    refine T_seq ?_
    refine T_block ?_
    refine T_seq ?_
    refine T_reg hF rfl ?_
    refine L_op rfl (op_pr (pr_move rfl rfl) rfl rfl ?_)
    refine L_op rfl (op_pr (pr_assign rfl rfl) rfl rfl ?_)
    refine L_nil ?_
    refine T_re [(0, (.int .i64 ((n : Nat) : Int))), (1, (b8 x)), (5, (.slice (some ⟨g1, 0, none⟩) n n)), (6, (.int .i64 ((k : Nat) : Int))), (14, (.int .i64 ((n : Nat) : Int))), (15, (.int .i64 ((k : Nat) : Int)))] (sc rfl (sc rfl (sc rfl (sc rfl (sc rfl (sc rfl sn)))))) ?_
    refine T_he [0] [.blk g1 5 (bs.map b8)] ⟨by decide, rfl⟩ ?_
    refine T_reg hF rfl ?_
    refine L_op rfl (op_pr (pr_move rfl rfl) rfl rfl ?_)
    refine L_op rfl (op_pr (pr_move rfl rfl) rfl rfl ?_)
    refine L_op rfl (op_pr (pr_move rfl rfl) rfl rfl ?_)
    refine L_op rfl (op_pr (pr_move rfl rfl) rfl rfl ?_)
    refine L_op rfl (op_pr (pr_move rfl rfl) rfl rfl ?_)
    refine L_op rfl (op_pr (pr_mul (nm_i64 (a := k) (b := k) (by first | omega | (simp; done) | (simp; omega) | (simp [*]; done) | (simp [*]; omega))) rfl rfl rfl) rfl rfl ?_)
    refine L_op rfl (op_pr (pr_cv (nw8 (k * k)) Try.underlying3 Try.underlying5 rfl rfl) rfl rfl ?_)
    refine L_op rfl (op_pr (pr_add (add8 _ _) rfl rfl rfl) rfl rfl ?_)
    refine L_op rfl (op_pr (pr_ixb (j := k) (m' := k) (by first | omega | (simp; done) | (simp; omega) | (simp [*]; done) | (simp [*]; omega)) (by omega) Try.underlying24 (z := 1) (by kernel_rfl) rfl rfl rfl) rfl rfl ?_)
    refine L_op rfl (op_store (vs := [(b8 (x + (BitVec.ofNat 8 (k * k))))]) (cs' := ((List.set bs k (x + (BitVec.ofNat 8 (k * k)))).map b8)) 0 rfl rfl (by kernel_rfl) (one_one rfl) (by have : k < (bs).length := (by first | omega | (simp; done) | (simp; omega) | (simp [*]; done) | (simp [*]; omega)); simp only [List.length_map, List.length_singleton]; omega) (splice_map (f := b8) (by first | omega | (simp; done) | (simp; omega) | (simp [*]; done) | (simp [*]; omega))) rfl rfl rfl rfl ?_)
    refine L_nil ?_
    refine T_re [(0, (.int .i64 ((n : Nat) : Int))), (1, (b8 x)), (5, (.slice (some ⟨g1, 0, none⟩) n n)), (14, (.int .i64 ((n : Nat) : Int))), (15, (.int .i64 ((k : Nat) : Int)))] (sc rfl (sc rfl (sc rfl (sc rfl (sc rfl sn))))) ?_
    refine T_he [0] [.blk g1 5 ((List.set bs k (x + (BitVec.ofNat 8 (k * k)))).map b8)] ⟨by decide, rfl⟩ ?_
    refine T_reg hF rfl ?_
    refine L_op rfl (op_pr (pr_add (na_i64 (a := k) (b := 1) (by first | omega | (simp; done) | (simp; omega) | (simp [*]; done) | (simp [*]; omega))) rfl rfl rfl) rfl rfl ?_)
    refine L_op rfl (op_pr (pr_move rfl rfl) rfl rfl ?_)
    refine L_nil ?_
    refine T_re [(0, (.int .i64 ((n : Nat) : Int))), (1, (b8 x)), (5, (.slice (some ⟨g1, 0, none⟩) n n)), (14, (.int .i64 ((n : Nat) : Int))), (15, (.int .i64 ((k + 1 : Nat) : Int)))] (sc rfl (sc rfl (sc rfl (sc rfl (sc rfl sn))))) ?_
    refine T_he [0] [.blk g1 5 ((List.set bs k (x + (BitVec.ofNat 8 (k * k)))).map b8)] ⟨by decide, rfl⟩ ?_
    exact T_again (k + 1, (List.set bs k (x + (BitVec.ofNat 8 (k * k))))) (by simp; omega) (by first | trivial | ((try dsimp only); first | omega | (refine ⟨?_, ?_⟩ <;> omega) | (refine ⟨?_, ?_, ?_⟩ <;> omega) | (simp; done) | (simp; omega))) (sc rfl (sc rfl (sc rfl (sc rfl (sc rfl sn))))) [0] ⟨by decide, rfl⟩
  · skip
    have hc_2 := of_decide_eq_false hc_2
    refine T_exit rfl ?_
    obtain rfl : n = k := by omega
    refine T_seq ?_
    refine T_regD [.blk g1 5 (bs.map b8)] 25 25 #[false, false, false, false, false, false, false, false, false, false, false, false, false, false, false, false, false, false, false, false, false, false, false, false, false] hF (by kernel_rfl) (by kernel_rfl) ?_
    refine D_one 0 _ rfl (by kernel_rfl) rfl (op_call0 (vs := []) (cap := []) (fun w hw => awake_f  w (hok_nil w) ) (enters_of Try.func15 (by kernel_rfl) rfl) rfl rfl rfl rfl rfl (fun t3 q4 => ?_))
    refine D_on [0] rfl ?_
    refine D_pure (i := 1) [0] rfl (by kernel_rfl) rfl (pr_move rfl rfl) (.inr rfl) rfl rfl ?_
    refine D_pure (i := 2) [0] rfl (by kernel_rfl) rfl (pr_move rfl rfl) (.inr rfl) rfl rfl ?_
    refine D_pure (i := 5) [0] rfl (by kernel_rfl) rfl (pr_move rfl rfl) (.inr rfl) rfl rfl ?_
    refine D_one 3 _ rfl (by kernel_rfl) rfl (op_bslice (e := 24) (zs := [(.slice (some ⟨g1, 0, none⟩) n n)]) (qs := [(0, (.slice (some ⟨g1, 0, none⟩) n n))]) (fun _ => by kernel_rfl) rfl rfl rfl rfl (fun g5 => ?_))
    refine D_on [1] rfl ?_
    refine D_one 4 _ rfl (by kernel_rfl) rfl (op_call0 (vs := [(.slice (some ⟨g5, 0, none⟩) 1 1)]) (cap := []) (fun w hw => sum_f [(Pt.mk (some ⟨g1, 0, none⟩) n n bs)] (some ⟨g5, 0, none⟩) 1 1 w (hok_cons ((src_full (z := 1) 0 rfl rfl (by first | omega | (simp; done) | (simp; omega) | (simp [*]; done) | (simp [*]; omega)) (by first | omega | (simp; done) | (simp; omega) | (simp [*]; done) | (simp [*]; omega))) w hw) (hok_cons (all_cons ((src_full (z := 1) 1 rfl (by first | omega | (simp; done) | (simp; omega) | (simp [*]; done) | (simp [*]; omega)) (by first | omega | (simp; done) | (simp; omega) | (simp [*]; done) | (simp [*]; omega)) (by first | omega | (simp; done) | (simp; omega) | (simp [*]; done) | (simp [*]; omega))) w hw) (all_nil w)) (hok_nil w))) (by first | omega | (simp; done) | (simp; omega) | (simp [*]; done) | (simp [*]; omega)) (by first | assumption | omega | (simp [catp_cons, catp_nil]; done) | (simp [catp_cons, catp_nil]; omega)) (by first | omega | (simp; done) | (simp; omega) | (simp [*]; done) | (simp [*]; omega))) (enters_of Try.func17 (by kernel_rfl) rfl) rfl rfl rfl rfl rfl (fun t6 q7 => ?_))
    refine T_slot 32 (.agg ((shasum (catp [(Pt.mk (some ⟨g1, 0, none⟩) n n bs)])).map b8).toArray) (.agg ((shasum bs).map b8).toArray) rfl (by simp [catp]) ?_
    refine D_on [1] rfl ?_
    refine D_one 6 _ rfl (by kernel_rfl) rfl (op_call0 (vs := [(.slice (some ⟨g1, 0, none⟩) n n)]) (cap := []) (fun w hw => rsum_f bs (some ⟨g1, 0, none⟩) n n w (hok_cons ((src_full (z := 1) 1 rfl (by first | omega | (simp; done) | (simp; omega) | (simp [*]; done) | (simp [*]; omega)) (by first | omega | (simp; done) | (simp; omega) | (simp [*]; done) | (simp [*]; omega)) (by first | omega | (simp; done) | (simp; omega) | (simp [*]; done) | (simp [*]; omega))) w hw) (hok_nil w)) (by first | assumption | omega | (simp; done) | (simp; omega)) (by first | omega | (simp; done) | (simp; omega) | (simp [*]; done) | (simp [*]; omega))) (enters_of Try.func18 (by kernel_rfl) rfl) rfl rfl rfl rfl rfl (fun t8 q9 => ?_))
    refine D_on [1] rfl ?_
    refine D_pure (i := 7) [1] rfl (by kernel_rfl) rfl (pr_eqagg (bo := .eql) (c := ((shasum bs) == (shasum bs))) (r := ((shasum bs) == (shasum bs))) (eqb8 (xs := (shasum bs)) (ys := (shasum bs)) Try.underlying26 Try.underlying5 (by kernel_rfl) (by first | omega | (simp; done) | (simp; omega) | (simp [*]; done) | (simp [*]; omega)) (by first | omega | (simp; done) | (simp; omega) | (simp [*]; done) | (simp [*]; omega))) (by kernel_rfl) rfl rfl rfl rfl rfl) (.inr rfl) rfl rfl ?_
    refine D_pure (i := 8) [1] rfl (by kernel_rfl) rfl (pr_pick_t rfl rfl rfl) (.inr rfl) rfl rfl ?_
    refine D_pure (i := 9) [1] rfl (by kernel_rfl) rfl (pr_move rfl rfl) (.inr rfl) rfl rfl ?_
    refine T_slot 35 (.bool ((shasum bs) == (shasum bs))) (.bool true) rfl (congrArg _ (by simp)) ?_
    refine T_slot 36 (.bool ((shasum bs) == (shasum bs))) (.bool true) rfl (congrArg _ (by simp)) ?_
    refine T_slot 37 (.bool ((shasum bs) == (shasum bs))) (.bool true) rfl (congrArg _ (by simp)) ?_
    refine D_pure (i := 10) [1] rfl (by kernel_rfl) rfl (pr_move rfl rfl) (.inr rfl) rfl rfl ?_
    refine D_pure (i := 11) [1] rfl (by kernel_rfl) rfl (pr_move rfl rfl) (.inr rfl) rfl rfl ?_
    refine D_pure (i := 12) [1] rfl (by kernel_rfl) rfl (pr_quo (a := n) (b := 2) (by first | omega | (simp; done) | (simp; omega) | (simp [*]; done) | (simp [*]; omega)) (by first | omega | (simp; done) | (simp; omega) | (simp [*]; done) | (simp [*]; omega)) rfl rfl rfl) (.inr rfl) rfl rfl ?_
    refine D_pure (i := 13) [1] rfl (by kernel_rfl) rfl (pr_slup (u := n / 2) (by first | omega | (simp; done) | (simp; omega) | (simp [*]; done) | (simp [*]; omega)) Try.underlying24 (z := 1) (by kernel_rfl) rfl rfl rfl) (.inr rfl) rfl rfl ?_
    refine D_pure (i := 14) [1] rfl (by kernel_rfl) rfl (pr_move rfl rfl) (.inr rfl) rfl rfl ?_
    refine D_pure (i := 15) [1] rfl (by kernel_rfl) rfl (pr_move rfl rfl) (.inr rfl) rfl rfl ?_
    refine D_pure (i := 16) [1] rfl (by kernel_rfl) rfl (pr_quo (a := n) (b := 2) (by first | omega | (simp; done) | (simp; omega) | (simp [*]; done) | (simp [*]; omega)) (by first | omega | (simp; done) | (simp; omega) | (simp [*]; done) | (simp [*]; omega)) rfl rfl rfl) (.inr rfl) rfl rfl ?_
    refine D_pure (i := 17) [1] rfl (by kernel_rfl) rfl (pr_sllo (l := n / 2) (m' := n / 2) (by first | omega | (simp; done) | (simp; omega) | (simp [*]; done) | (simp [*]; omega)) (by first | omega | (simp; done) | (simp; omega) | (simp [*]; done) | (simp [*]; omega)) (by omega) Try.underlying24 (by kernel_rfl) rfl rfl rfl) (.inr rfl) rfl rfl ?_
    refine D_pure (i := 20) [1] rfl (by kernel_rfl) rfl (pr_move rfl rfl) (.inr rfl) rfl rfl ?_
    refine D_one 18 _ rfl (by kernel_rfl) rfl (op_bslice (e := 24) (zs := [(.slice (some ⟨g1, 0, none⟩) (n / 2) n), (.slice (some ⟨g1, n / 2, none⟩) (n - (n / 2)) (n - (n / 2)))]) (qs := [(0, (.slice (some ⟨g1, 0, none⟩) (n / 2) n)), (1, (.slice (some ⟨g1, n / 2, none⟩) (n - (n / 2)) (n - (n / 2))))]) (fun _ => by kernel_rfl) rfl rfl rfl rfl (fun g10 => ?_))
    refine D_on [2] rfl ?_
    refine D_one 19 _ rfl (by kernel_rfl) rfl (op_call0 (vs := [(.slice (some ⟨g10, 0, none⟩) 2 2)]) (cap := []) (fun w hw => sum_f [(Pt.mk (some ⟨g1, 0, none⟩) (n / 2) n (List.take (n / 2) (List.drop 0 bs))), (Pt.mk (some ⟨g1, n / 2, none⟩) (n - (n / 2)) (n - (n / 2)) (List.take (n - (n / 2)) (List.drop (n / 2) bs)))] (some ⟨g10, 0, none⟩) 2 2 w (hok_cons ((src_full (z := 1) 0 rfl rfl (by first | omega | (simp; done) | (simp; omega) | (simp [*]; done) | (simp [*]; omega)) (by first | omega | (simp; done) | (simp; omega) | (simp [*]; done) | (simp [*]; omega))) w hw) (hok_cons (all_cons ((src_sub 2 rfl (by first | omega | (simp; done) | (simp; omega) | (simp [*]; done) | (simp [*]; omega)) (by first | omega | (simp; done) | (simp; omega) | (simp [*]; done) | (simp [*]; omega)) (by first | omega | (simp; done) | (simp; omega) | (simp [*]; done) | (simp [*]; omega))) w hw) (all_cons ((src_sub 2 rfl (by first | omega | (simp; done) | (simp; omega) | (simp [*]; done) | (simp [*]; omega)) (by first | omega | (simp; done) | (simp; omega) | (simp [*]; done) | (simp [*]; omega)) (by first | omega | (simp; done) | (simp; omega) | (simp [*]; done) | (simp [*]; omega))) w hw) (all_nil w))) (hok_nil w))) (by first | omega | (simp; done) | (simp; omega) | (simp [*]; done) | (simp [*]; omega)) (by first | assumption | omega | (simp [catp_cons, catp_nil]; done) | (simp [catp_cons, catp_nil]; omega)) (by first | omega | (simp; done) | (simp; omega) | (simp [*]; done) | (simp [*]; omega))) (enters_of Try.func17 (by kernel_rfl) rfl) rfl rfl rfl rfl rfl (fun t11 q12 => ?_))
    refine T_slot 47 (.agg ((shasum (catp [(Pt.mk (some ⟨g1, 0, none⟩) (n / 2) n (List.take (n / 2) (List.drop 0 bs))), (Pt.mk (some ⟨g1, n / 2, none⟩) (n - (n / 2)) (n - (n / 2)) (List.take (n - (n / 2)) (List.drop (n / 2) bs)))])).map b8).toArray) (.agg ((shasum bs).map b8).toArray) rfl (by rw [edges_cat bs n hbl]) ?_
    refine D_on [2] rfl ?_
    refine D_one 21 _ rfl (by kernel_rfl) rfl (op_call0 (vs := [(.slice (some ⟨g1, 0, none⟩) n n)]) (cap := []) (fun w hw => rsum_f bs (some ⟨g1, 0, none⟩) n n w (hok_cons ((src_full (z := 1) 2 rfl (by first | omega | (simp; done) | (simp; omega) | (simp [*]; done) | (simp [*]; omega)) (by first | omega | (simp; done) | (simp; omega) | (simp [*]; done) | (simp [*]; omega)) (by first | omega | (simp; done) | (simp; omega) | (simp [*]; done) | (simp [*]; omega))) w hw) (hok_nil w)) (by first | assumption | omega | (simp; done) | (simp; omega)) (by first | omega | (simp; done) | (simp; omega) | (simp [*]; done) | (simp [*]; omega))) (enters_of Try.func18 (by kernel_rfl) rfl) rfl rfl rfl rfl rfl (fun t13 q14 => ?_))
    refine D_on [2] rfl ?_
    refine D_pure (i := 22) [2] rfl (by kernel_rfl) rfl (pr_eqagg (bo := .eql) (c := ((shasum bs) == (shasum bs))) (r := ((shasum bs) == (shasum bs))) (eqb8 (xs := (shasum bs)) (ys := (shasum bs)) Try.underlying26 Try.underlying5 (by kernel_rfl) (by first | omega | (simp; done) | (simp; omega) | (simp [*]; done) | (simp [*]; omega)) (by first | omega | (simp; done) | (simp; omega) | (simp [*]; done) | (simp [*]; omega))) (by kernel_rfl) rfl rfl rfl rfl rfl) (.inr rfl) rfl rfl ?_
    refine D_pure (i := 23) [2] rfl (by kernel_rfl) rfl (pr_pick_t rfl rfl rfl) (.inr rfl) rfl rfl ?_
    refine D_pure (i := 24) [2] rfl (by kernel_rfl) rfl (pr_assign rfl rfl) (.inr rfl) rfl rfl ?_
    refine D_done (by kernel_rfl) ?_
    refine T_re [(4, (.bool ((shasum bs) == (shasum bs))))] (sc rfl sn) ?_
    refine T_he [0, 1, 2] [.blk g10 24 [(.slice (some ⟨g1, 0, none⟩) (n / 2) n), (.slice (some ⟨g1, n / 2, none⟩) (n - (n / 2)) (n - (n / 2)))], .blk g5 24 [(.slice (some ⟨g1, 0, none⟩) n n)], .blk g1 5 (bs.map b8)] ⟨by decide, rfl⟩ ?_
    refine T_ret ?_
    refine T_slot 4 (.bool ((shasum bs) == (shasum bs))) (.bool true) rfl (by simp) ?_
    exact T_fin () (by first | trivial | omega | (simp; done)) (res1 rfl rfl) [] ⟨by decide, rfl⟩ rfl
set_option maxHeartbeats 4000000 in
theorem shaSums_f (Q : List Pt) (A : Option Addr) (n : Nat) (c : Nat) (w : World) (hO : HOK [.rd A 1 n c (Q.map Pt.sl), .all Q] w) (hn : Q.length = n) : Calls Try.prog 3 [(.slice A n c)].toArray w (Ret (T := Unit) [] w (fun _ => True) (fun _ => (.bool true)) (fun _ => [])) := by
  have hsl := shasum_len (catp Q)
  have hF : Wid Fence.wide := wid_wide
  refine enter (c := _) Try.func3 rfl [] [(.slice A n c)] [.rd A 1 n c (Q.map Pt.sl), .all Q] (by rw [Try.ntmps3]; rfl) (own_rds hO rfl) ?_
  rw [Try.ntmps3]
  refine T_re [(0, (.slice A n c))] (sc rfl sn) ?_
  refine T_he [0, 1] [.rd A 1 n c (Q.map Pt.sl), .all Q] ⟨by decide, rfl⟩ ?_
  refine T_seq ?_
  refine T_reg hF rfl ?_
  refine L_op rfl (op_pr (pr_assign rfl rfl) rfl rfl ?_)
  refine L_nil ?_
  refine T_re [(0, (.slice A n c))] (sc rfl sn) ?_
  refine T_he [0, 1] [.rd A 1 n c (Q.map Pt.sl), .all Q] ⟨by decide, rfl⟩ ?_
  refine T_seq ?_
  refine T_seq ?_
  refine T_reg hF rfl ?_
  refine L_op rfl (op_pr (pr_move rfl rfl) rfl rfl ?_)
  refine L_op rfl (op_pr (pr_len_sl Try.underlying22 rfl rfl) rfl rfl ?_)
  refine L_op rfl (op_pr (pr_cmp (bo := .gtr) (nc_lt (a := 20) (b := n)) rfl rfl rfl rfl) rfl rfl ?_)
  refine L_nil ?_
  refine T_re [(0, (.slice A n c)), (8, (.bool (decide (20 < n))))] (sc rfl (sc rfl sn)) ?_
  refine T_he [0, 1] [.rd A 1 n c (Q.map Pt.sl), .all Q] ⟨by decide, rfl⟩ ?_
  refine T_cond (decide (20 < n)) rfl (fun hc_1 => ?_) (fun hc_1 => ?_)
  · skip
    have hc_1 := of_decide_eq_true hc_1
    refine T_seq ?_
    refine T_reg hF rfl ?_
    refine L_op rfl (op_call0 (vs := []) (cap := []) (fun w hw => awake_f  w (hok_nil w) ) (enters_of Try.func15 (by kernel_rfl) rfl) rfl rfl rfl rfl rfl (fun t2 q3 => ?_))
    refine L_op rfl (op_pr (pr_assign rfl rfl) rfl rfl ?_)
    refine L_nil ?_
    refine T_re [(2, (.bool true))] (sc rfl sn) ?_
    refine T_he [0, 1] [.rd A 1 n c (Q.map Pt.sl), .all Q] ⟨by decide, rfl⟩ ?_
    refine T_ret ?_
    exact T_fin () (by first | trivial | omega | (simp; done)) (res1 rfl rfl) [] ⟨by decide, rfl⟩ rfl
  · skip
    have hc_1 := of_decide_eq_false hc_1
    refine T_skip ?_
    refine T_seq ?_
    refine T_reg hF rfl ?_
    refine L_op rfl (op_pr (pr_assign rfl rfl) rfl rfl ?_)
    refine L_nil ?_
    refine T_re [(0, (.slice A n c)), (3, (.slice none 0 0))] (sc rfl (sc rfl sn)) ?_
    refine T_he [0, 1] [.rd A 1 n c (Q.map Pt.sl), .all Q] ⟨by decide, rfl⟩ ?_
    refine T_seq ?_
    refine T_seq ?_
    refine T_reg hF rfl ?_
    refine L_op rfl (op_pr (pr_assign rfl rfl) rfl rfl ?_)
    refine L_nil ?_
    refine T_re [(0, (.slice A n c)), (3, (.slice none 0 0)), (4, (.int .i64 ((0 : Nat) : Int)))] (sc rfl (sc rfl (sc rfl sn))) ?_
    refine T_he [0, 1] [.rd A 1 n c (Q.map Pt.sl), .all Q] ⟨by decide, rfl⟩ ?_
    refine T_block ?_
    refine T_slot 3 (.slice none 0 0) (.slice none ((catp (Q.take 0)).length) 0) rfl (rfl) ?_
    refine T_nilrow 5 1 ?_
    refine T_as 0 (.row (.slice none 0 0) 5 1 0 []) (.row (.slice none ((catp (Q.take 0)).length) 0) 5 1 ((catp (Q.take 0)).length) ((catp (Q.take 0)).map b8)) rfl (rfl) ?_
    refine T_loop (T := Nat × Option Addr × Nat) (fun ⟨k, A1, c1⟩ => k ≤ n ∧ (catp (Q.take k)).length ≤ 1000 * k) (fun ⟨k, A1, c1⟩ => [(0, (.slice A n c)), (3, (.slice A1 ((catp (Q.take k)).length) c1)), (4, (.int .i64 ((k : Nat) : Int)))]) (fun ⟨k, A1, c1⟩ => [.row (.slice A1 ((catp (Q.take k)).length) c1) 5 1 ((catp (Q.take k)).length) ((catp (Q.take k)).map b8), .rd A 1 n c (Q.map Pt.sl), .all Q]) (fun ⟨k, A1, c1⟩ => n - k) (0, none, 0) (by simp [catp]) (sc rfl (sc rfl (sc rfl sn))) [0, 1, 2] ⟨by decide, rfl⟩ ?_
    rintro ⟨k, A1, c1⟩ hp
    have hp : k ≤ n ∧ (catp (Q.take k)).length ≤ 1000 * k := hp
    have hle := catp_le Q k
    have hct : k < n → (catp (Q.take (k + 1))).length = (catp (Q.take k)).length + (pat Q k).xs.length := fun h => by rw [catp_take (by omega), List.length_append]
    refine T_re [(0, (.slice A n c)), (3, (.slice A1 ((catp (Q.take k)).length) c1)), (4, (.int .i64 ((k : Nat) : Int)))] (sc rfl (sc rfl (sc rfl sn))) ?_
    refine T_he [0, 1, 2] [.row (.slice A1 ((catp (Q.take k)).length) c1) 5 1 ((catp (Q.take k)).length) ((catp (Q.take k)).map b8), .rd A 1 n c (Q.map Pt.sl), .all Q] ⟨by decide, rfl⟩ ?_
    refine T_seq ?_
    refine T_seq ?_
    refine T_reg hF rfl ?_
    refine L_op rfl (op_pr (pr_move rfl rfl) rfl rfl ?_)
    refine L_op rfl (op_pr (pr_move rfl rfl) rfl rfl ?_)
    refine L_op rfl (op_pr (pr_len_sl Try.underlying22 rfl rfl) rfl rfl ?_)
    refine L_op rfl (op_pr (pr_cmp (bo := .lss) (nc_lt (a := k) (b := n)) rfl rfl rfl rfl) rfl rfl ?_)
    refine L_nil ?_
    refine T_re [(0, (.slice A n c)), (3, (.slice A1 ((catp (Q.take k)).length) c1)), (4, (.int .i64 ((k : Nat) : Int))), (13, (.bool (decide (k < n))))] (sc rfl (sc rfl (sc rfl (sc rfl sn)))) ?_
    refine T_he [0, 1, 2] [.row (.slice A1 ((catp (Q.take k)).length) c1) 5 1 ((catp (Q.take k)).length) ((catp (Q.take k)).map b8), .rd A 1 n c (Q.map Pt.sl), .all Q] ⟨by decide, rfl⟩ ?_
    refine T_cond (decide (k < n)) rfl (fun hc_4 => ?_) (fun hc_4 => ?_)
    · skip
      have hc_4 := of_decide_eq_true hc_4
      refine T_skip ?_
      refine T_seq ?_
      refine T_block ?_
      refine T_seq ?_
      refine T_seq ?_
      refine T_reg hF rfl ?_
      refine L_op rfl (op_pr (pr_move rfl rfl) rfl rfl ?_)
      refine L_op rfl (op_pr (pr_move rfl rfl) rfl rfl ?_)
      refine L_op rfl (op_pr (pr_ixs1 (j := k) (src_none (src_rd 1 rfl)) (by first | omega | (simp; done) | (simp; omega) | (simp [*]; done) | (simp [*]; omega)) Try.underlying22 (by kernel_rfl) rfl rfl rfl) rfl rfl ?_)
      refine L_op rfl (op_ld (ld_src (m := k) (src_rd 1 rfl) (pat_get (by first | omega | (simp; done) | (simp; omega) | (simp [*]; done) | (simp [*]; omega))) Try.underlying24 rfl rfl rfl) rfl rfl ?_)
      refine T_ofall 2 rfl (pat_mem (L := Q) (j := k) (by first | omega | (simp; done) | (simp; omega) | (simp [*]; done) | (simp [*]; omega))) (fun hl_5 hm_6 => ?_)
      refine L_op rfl (op_pr (pr_len_sl Try.underlying24 rfl rfl) rfl rfl ?_)
      refine L_op rfl (op_pr (pr_cmp (bo := .gtr) (nc_lt (a := 1000) (b := (pat Q k).n)) rfl rfl rfl rfl) rfl rfl ?_)
      refine L_nil ?_
      refine T_re [(0, (.slice A n c)), (3, (.slice A1 ((catp (Q.take k)).length) c1)), (4, (.int .i64 ((k : Nat) : Int))), (21, (.bool (decide (1000 < (pat Q k).n))))] (sc rfl (sc rfl (sc rfl (sc rfl sn)))) ?_
      refine T_he [0, 1, 2, 3] [.rd ((pat Q k).A) 1 ((pat Q k).n) ((pat Q k).c) (((pat Q k).xs).map b8), .row (.slice A1 ((catp (Q.take k)).length) c1) 5 1 ((catp (Q.take k)).length) ((catp (Q.take k)).map b8), .rd A 1 n c (Q.map Pt.sl), .all Q] ⟨by decide, rfl⟩ ?_
      refine T_cond (decide (1000 < (pat Q k).n)) rfl (fun hc_7 => ?_) (fun hc_7 => ?_)
      · skip
        have hc_7 := of_decide_eq_true hc_7
        refine T_seq ?_
        refine T_reg hF rfl ?_
        refine L_op rfl (op_call0 (vs := []) (cap := []) (fun w hw => awake_f  w (hok_nil w) ) (enters_of Try.func15 (by kernel_rfl) rfl) rfl rfl rfl rfl rfl (fun t8 q9 => ?_))
        refine L_op rfl (op_pr (pr_assign rfl rfl) rfl rfl ?_)
        refine L_nil ?_
        refine T_re [(2, (.bool true))] (sc rfl sn) ?_
        refine T_he [0, 1, 2, 3] [.rd ((pat Q k).A) 1 ((pat Q k).n) ((pat Q k).c) (((pat Q k).xs).map b8), .row (.slice A1 ((catp (Q.take k)).length) c1) 5 1 ((catp (Q.take k)).length) ((catp (Q.take k)).map b8), .rd A 1 n c (Q.map Pt.sl), .all Q] ⟨by decide, rfl⟩ ?_
        refine T_ret ?_
        exact T_fin () (by first | trivial | omega | (simp; done)) (res1 rfl rfl) [] ⟨by decide, rfl⟩ rfl
      · skip
        have hc_7 := of_decide_eq_false hc_7
        refine T_skip ?_
        refine T_reg hF rfl ?_
        refine L_op rfl (op_pr (pr_move rfl rfl) rfl rfl ?_)
        refine L_op rfl (op_pr (pr_move rfl rfl) rfl rfl ?_)
        refine L_op rfl (op_pr (pr_move rfl rfl) rfl rfl ?_)
        refine L_op rfl (op_pr (pr_ixs1 (j := k) (src_none (src_rd 2 rfl)) (by first | omega | (simp; done) | (simp; omega) | (simp [*]; done) | (simp [*]; omega)) Try.underlying22 (by kernel_rfl) rfl rfl rfl) rfl rfl ?_)
        refine L_op rfl (op_ld (ld_src (m := k) (src_rd 2 rfl) (pat_get (by first | omega | (simp; done) | (simp; omega) | (simp [*]; done) | (simp [*]; omega))) Try.underlying24 rfl rfl rfl) rfl rfl ?_)
        refine L_op rfl (op_append (z := (b8 (0#8))) (size := 1) (bytes := 1) 1 rfl Try.underlying24 (by kernel_rfl) (by kernel_rfl) (by decide) (src_rd 0 rfl) (all8_one _) (by first | omega | (simp; done) | (simp; omega) | (simp [*]; done) | (simp [*]; omega)) (by first | omega | (simp; done) | (simp; omega) | (simp [*]; done) | (simp [*]; omega)) rfl rfl rfl rfl rfl (fun A10 C11 => ?_))
        refine T_as 0 (.row (.slice A10 ((catp (Q.take k)).length + (pat Q k).n) C11) 5 1 ((catp (Q.take k)).length + (pat Q k).n) (((catp (Q.take k)).map b8) ++ (((pat Q k).xs).map b8))) (.row (.slice A10 ((catp (Q.take k)).length + ((pat Q k).n)) C11) 5 1 ((catp (Q.take k)).length + ((pat Q k).n)) (((catp (Q.take k)) ++ (pat Q k).xs).map b8)) rfl (by first | rfl | (congr 1; simp; done) | (rw [List.map_append]; rfl)) ?_
        refine T_slot 28 (.slice A10 ((catp (Q.take k)).length + (pat Q k).n) C11) (.slice A10 ((catp (Q.take k)).length + ((pat Q k).n)) C11) rfl rfl ?_
        refine L_op rfl (op_pr (pr_assign rfl rfl) rfl rfl ?_)
        refine L_nil ?_
        refine T_re [(0, (.slice A n c)), (3, (.slice A10 ((catp (Q.take k)).length + ((pat Q k).n)) C11)), (4, (.int .i64 ((k : Nat) : Int)))] (sc rfl (sc rfl (sc rfl sn))) ?_
        refine T_he [0, 1, 2, 3] [.row (.slice A10 ((catp (Q.take k)).length + ((pat Q k).n)) C11) 5 1 ((catp (Q.take k)).length + ((pat Q k).n)) (((catp (Q.take k)) ++ (pat Q k).xs).map b8), .rd ((pat Q k).A) 1 ((pat Q k).n) ((pat Q k).c) (((pat Q k).xs).map b8), .rd A 1 n c (Q.map Pt.sl), .all Q] ⟨by decide, rfl⟩ ?_
        refine T_reg hF rfl ?_
        refine L_op rfl (op_pr (pr_move rfl rfl) rfl rfl ?_)
        refine L_op rfl (op_pr (pr_add (na_i64 (a := k) (b := 1) (by first | omega | (simp; done) | (simp; omega) | (simp [*]; done) | (simp [*]; omega))) rfl rfl rfl) rfl rfl ?_)
        refine L_op rfl (op_pr (pr_assign rfl rfl) rfl rfl ?_)
        refine L_nil ?_
        refine T_re [(0, (.slice A n c)), (3, (.slice A10 ((catp (Q.take k)).length + ((pat Q k).n)) C11)), (4, (.int .i64 ((k + 1 : Nat) : Int)))] (sc rfl (sc rfl (sc rfl sn))) ?_
        refine T_he [0, 1, 2, 3] [.row (.slice A10 ((catp (Q.take k)).length + ((pat Q k).n)) C11) 5 1 ((catp (Q.take k)).length + ((pat Q k).n)) (((catp (Q.take k)) ++ (pat Q k).xs).map b8), .rd ((pat Q k).A) 1 ((pat Q k).n) ((pat Q k).c) (((pat Q k).xs).map b8), .rd A 1 n c (Q.map Pt.sl), .all Q] ⟨by decide, rfl⟩ ?_
        refine T_slot 3 (.slice A10 ((catp (Q.take k)).length + ((pat Q k).n)) C11) (.slice A10 ((catp (Q.take (k + 1))).length) C11) rfl (by rw [hct (by assumption)]; congr 1; omega) ?_
        refine T_as 0 (.row (.slice A10 ((catp (Q.take k)).length + ((pat Q k).n)) C11) 5 1 ((catp (Q.take k)).length + ((pat Q k).n)) (((catp (Q.take k)) ++ (pat Q k).xs).map b8)) (.row (.slice A10 ((catp (Q.take (k + 1))).length) C11) 5 1 ((catp (Q.take (k + 1))).length) ((catp (Q.take (k + 1))).map b8)) rfl (by rw [catp_take (by omega), List.length_append]; congr 1 <;> simp <;> omega) ?_
        exact T_again (k + 1, A10, C11) (by simp only [hct (by assumption)]; omega) (by first | trivial | ((try dsimp only); first | omega | (refine ⟨?_, ?_⟩ <;> omega) | (refine ⟨?_, ?_, ?_⟩ <;> omega) | (simp; done) | (simp; omega))) (sc rfl (sc rfl (sc rfl sn))) [0, 2, 3] ⟨by decide, rfl⟩
    · skip
      have hc_4 := of_decide_eq_false hc_4
      refine T_exit rfl ?_
      obtain rfl : n = k := by omega
      have hfull : Q.take n = Q := List.take_of_length_le (by omega)
      have hcl : (catp Q).length ≤ 1000 * n := by have h9 := hp.2; rw [hfull] at h9; exact h9
      refine T_slot 3 (.slice A1 ((catp (Q.take n)).length) c1) (.slice A1 ((catp Q).length) c1) rfl (by rw [hfull]) ?_
      refine T_as 0 (.row (.slice A1 ((catp (Q.take n)).length) c1) 5 1 ((catp (Q.take n)).length) ((catp (Q.take n)).map b8)) (.row (.slice A1 ((catp Q).length) c1) 5 1 ((catp Q).length) ((catp Q).map b8)) rfl (by rw [hfull]) ?_
      refine T_seq ?_
      refine T_reg hF rfl ?_
      refine L_op rfl (op_pr (pr_move rfl rfl) rfl rfl ?_)
      refine L_op rfl (op_call0 (vs := [(.slice A1 ((catp Q).length) c1), (b8 (71#8))]) (cap := []) (fun w hw => own_f (catp Q) (71#8) A1 ((catp Q).length) c1 w (hok_cons ((src_row 0 rfl) w hw) (hok_nil w)) (by first | omega | (simp; done) | (simp; omega) | (simp [*]; done) | (simp [*]; omega)) (by first | omega | (simp; done) | (simp; omega) | (simp [*]; done) | (simp [*]; omega))) (enters_of Try.func16 (by kernel_rfl) rfl) rfl rfl rfl rfl rfl (fun t12 q13 => ?_))
      obtain ⟨B14, d15⟩ := t12
      have q13 : ((catp Q).length) + 3 ≤ d15 := q13
      refine L_op rfl (op_pr (pr_assign rfl rfl) rfl rfl ?_)
      refine L_nil ?_
      refine T_re [(0, (.slice A n c)), (3, (.slice A1 ((catp Q).length) c1)), (5, (.slice B14 ((catp Q).length) d15))] (sc rfl (sc rfl (sc rfl sn))) ?_
      refine T_he [0, 1, 2, 3, 4] [.old B14 1 (((catp Q).length) + 3) d15 (((catp Q) ++ [(71#8), (71#8), (71#8)]).map b8), .old B14 1 ((catp Q).length) d15 ((catp Q).map b8), .row (.slice A1 ((catp Q).length) c1) 5 1 ((catp Q).length) ((catp Q).map b8), .rd A 1 n c (Q.map Pt.sl), .all Q] ⟨by decide, rfl⟩ ?_
      refine T_seq ?_
      refine T_reg hF rfl ?_
      refine L_op rfl (op_call0 (vs := []) (cap := []) (fun w hw => awake_f  w (hok_nil w) ) (enters_of Try.func15 (by kernel_rfl) rfl) rfl rfl rfl rfl rfl (fun t16 q17 => ?_))
      refine L_op rfl (op_pr (pr_move rfl rfl) rfl rfl ?_)
      refine L_op rfl (op_pr (pr_move rfl rfl) rfl rfl ?_)
      refine L_op rfl (op_call0 (vs := [(.slice A n c)]) (cap := []) (fun w hw => sum_f Q A n c w (hok_cons ((src_rd 3 rfl) w hw) (hok_cons (hw _ (List.mem_of_getElem? (i := 4) rfl)) (hok_nil w))) (by first | omega | (simp; done) | (simp; omega) | (simp [*]; done) | (simp [*]; omega)) (by first | assumption | omega | (simp [catp_cons, catp_nil]; done) | (simp [catp_cons, catp_nil]; omega)) (by first | omega | (simp; done) | (simp; omega) | (simp [*]; done) | (simp [*]; omega))) (enters_of Try.func17 (by kernel_rfl) rfl) rfl rfl rfl rfl rfl (fun t18 q19 => ?_))
      refine L_op rfl (op_pr (pr_move rfl rfl) rfl rfl ?_)
      refine L_op rfl (op_call0 (vs := [(.slice A1 ((catp Q).length) c1)]) (cap := []) (fun w hw => rsum_f (catp Q) A1 ((catp Q).length) c1 w (hok_cons ((src_row 2 rfl) w hw) (hok_nil w)) (by first | assumption | omega | (simp; done) | (simp; omega)) (by first | omega | (simp; done) | (simp; omega) | (simp [*]; done) | (simp [*]; omega))) (enters_of Try.func18 (by kernel_rfl) rfl) rfl rfl rfl rfl rfl (fun t20 q21 => ?_))
      refine L_op rfl (op_pr (pr_eqagg (bo := .eql) (c := ((shasum (catp Q)) == (shasum (catp Q)))) (r := ((shasum (catp Q)) == (shasum (catp Q)))) (eqb8 (xs := (shasum (catp Q))) (ys := (shasum (catp Q))) Try.underlying26 Try.underlying5 (by kernel_rfl) (by first | omega | (simp; done) | (simp; omega) | (simp [*]; done) | (simp [*]; omega)) (by first | omega | (simp; done) | (simp; omega) | (simp [*]; done) | (simp [*]; omega))) (by kernel_rfl) rfl rfl rfl rfl rfl) rfl rfl ?_)
      refine L_op rfl (op_pr (pr_pick_t rfl rfl rfl) rfl rfl ?_)
      refine L_op rfl (op_pr (pr_move rfl rfl) rfl rfl ?_)
      refine T_slot 39 (.bool ((shasum (catp Q)) == (shasum (catp Q)))) (.bool true) rfl (congrArg _ (by simp)) ?_
      refine L_op rfl (op_pr (pr_move rfl rfl) rfl rfl ?_)
      refine L_op rfl (op_bslice (e := 24) (zs := [(.slice B14 ((catp Q).length) d15)]) (qs := [(0, (.slice B14 ((catp Q).length) d15))]) (fun _ => by kernel_rfl) rfl rfl rfl rfl (fun g23 => ?_))
      refine L_op rfl (op_call0 (vs := [(.slice (some ⟨g23, 0, none⟩) 1 1)]) (cap := []) (fun w hw => sum_f [(Pt.mk B14 ((catp Q).length) d15 (catp Q))] (some ⟨g23, 0, none⟩) 1 1 w (hok_cons ((src_full (z := 1) 0 rfl rfl (by first | omega | (simp; done) | (simp; omega) | (simp [*]; done) | (simp [*]; omega)) (by first | omega | (simp; done) | (simp; omega) | (simp [*]; done) | (simp [*]; omega))) w hw) (hok_cons (all_cons ((src_old 2 rfl) w hw) (all_nil w)) (hok_nil w))) (by first | omega | (simp; done) | (simp; omega) | (simp [*]; done) | (simp [*]; omega)) (by first | assumption | omega | (simp [catp_cons, catp_nil]; done) | (simp [catp_cons, catp_nil]; omega)) (by first | omega | (simp; done) | (simp; omega) | (simp [*]; done) | (simp [*]; omega))) (enters_of Try.func17 (by kernel_rfl) rfl) rfl rfl rfl rfl rfl (fun t24 q25 => ?_))
      refine T_slot 42 (.agg ((shasum (catp [(Pt.mk B14 ((catp Q).length) d15 (catp Q))])).map b8).toArray) (.agg ((shasum (catp Q)).map b8).toArray) rfl (by rw [catp_one]) ?_
      refine L_op rfl (op_pr (pr_move rfl rfl) rfl rfl ?_)
      refine L_op rfl (op_call0 (vs := [(.slice A1 ((catp Q).length) c1)]) (cap := []) (fun w hw => rsum_f (catp Q) A1 ((catp Q).length) c1 w (hok_cons ((src_row 3 rfl) w hw) (hok_nil w)) (by first | assumption | omega | (simp; done) | (simp; omega)) (by first | omega | (simp; done) | (simp; omega) | (simp [*]; done) | (simp [*]; omega))) (enters_of Try.func18 (by kernel_rfl) rfl) rfl rfl rfl rfl rfl (fun t26 q27 => ?_))
      refine L_op rfl (op_pr (pr_eqagg (bo := .eql) (c := ((shasum (catp Q)) == (shasum (catp Q)))) (r := ((shasum (catp Q)) == (shasum (catp Q)))) (eqb8 (xs := (shasum (catp Q))) (ys := (shasum (catp Q))) Try.underlying26 Try.underlying5 (by kernel_rfl) (by first | omega | (simp; done) | (simp; omega) | (simp [*]; done) | (simp [*]; omega)) (by first | omega | (simp; done) | (simp; omega) | (simp [*]; done) | (simp [*]; omega))) (by kernel_rfl) rfl rfl rfl rfl rfl) rfl rfl ?_)
      refine L_op rfl (op_pr (pr_pick_t rfl rfl rfl) rfl rfl ?_)
      refine L_op rfl (op_pr (pr_move rfl rfl) rfl rfl ?_)
      refine T_slot 47 (.bool ((shasum (catp Q)) == (shasum (catp Q)))) (.bool true) rfl (congrArg _ (by simp)) ?_
      refine L_op rfl (op_pr (pr_move rfl rfl) rfl rfl ?_)
      refine L_op rfl (op_pr (pr_move rfl rfl) rfl rfl ?_)
      refine L_op rfl (op_call0 (vs := [(.slice B14 ((catp Q).length) d15), (.slice A1 ((catp Q).length) c1), (b8 (71#8))]) (cap := []) (fun w hw => kept_f (catp Q) (71#8) B14 ((catp Q).length) d15 A1 c1 w (hok_cons ((src_old 2 rfl) w hw) (hok_cons ((src_old 1 rfl) w hw) (hok_cons ((src_row 3 rfl) w hw) (hok_nil w)))) (by first | omega | (simp; done) | (simp; omega) | (simp [*]; done) | (simp [*]; omega)) (by first | omega | (simp; done) | (simp; omega) | (simp [*]; done) | (simp [*]; omega)) (by first | omega | (simp; done) | (simp; omega) | (simp [*]; done) | (simp [*]; omega))) (enters_of Try.func19 (by kernel_rfl) rfl) rfl rfl rfl rfl rfl (fun t29 q30 => ?_))
      refine L_op rfl (op_pr (pr_pick_t rfl rfl rfl) rfl rfl ?_)
      refine L_op rfl (op_pr (pr_assign rfl rfl) rfl rfl ?_)
      refine L_nil ?_
      refine T_re [(2, (.bool true))] (sc rfl sn) ?_
      refine T_he [0, 1, 2, 3, 4, 5] [.blk g23 24 [(.slice B14 ((catp Q).length) d15)], .old B14 1 (((catp Q).length) + 3) d15 (((catp Q) ++ [(71#8), (71#8), (71#8)]).map b8), .old B14 1 ((catp Q).length) d15 ((catp Q).map b8), .row (.slice A1 ((catp Q).length) c1) 5 1 ((catp Q).length) ((catp Q).map b8), .rd A 1 n c (Q.map Pt.sl), .all Q] ⟨by decide, rfl⟩ ?_
      refine T_ret ?_
      exact T_fin () (by first | trivial | omega | (simp; done)) (res1 rfl rfl) [] ⟨by decide, rfl⟩ rfl
set_option maxHeartbeats 4000000 in
theorem shaParts_f (xs : List (BitVec 8)) (cuts : List (BitVec 64)) (A : Option Addr) (n : Nat) (c : Nat) (B : Option Addr) (m : Nat) (d : Nat) (w : World) (hO : HOK [.rd A 1 n c (xs.map b8), .rd B 1 m d (cuts.map bi)] w) (hx : xs.length = n) (hm : cuts.length = m) : Calls Try.prog 6 [(.slice A n c), (.slice B m d)].toArray w (Ret (T := Unit) [] w (fun _ => True) (fun _ => (.bool true)) (fun _ => [])) := by
  have hsl := shasum_len xs
  have hs0 := shasum_len []
  have hF : Wid Fence.wide := wid_wide
  refine enter (c := _) Try.func6 rfl [] [(.slice A n c), (.slice B m d)] [.rd A 1 n c (xs.map b8), .rd B 1 m d (cuts.map bi)] (by rw [Try.ntmps6]; rfl) (own_rds hO rfl) ?_
  rw [Try.ntmps6]
  refine T_re [(0, (.slice A n c)), (1, (.slice B m d))] (sc rfl (sc rfl sn)) ?_
  refine T_he [0, 1] [.rd A 1 n c (xs.map b8), .rd B 1 m d (cuts.map bi)] ⟨by decide, rfl⟩ ?_
  refine T_seq ?_
  refine T_reg hF rfl ?_
  refine L_op rfl (op_pr (pr_assign rfl rfl) rfl rfl ?_)
  refine L_nil ?_
  refine T_re [(0, (.slice A n c)), (1, (.slice B m d))] (sc rfl (sc rfl sn)) ?_
  refine T_he [0, 1] [.rd A 1 n c (xs.map b8), .rd B 1 m d (cuts.map bi)] ⟨by decide, rfl⟩ ?_
  refine T_seq ?_
  refine T_seq ?_
  refine T_reg hF rfl ?_
  refine L_op rfl (op_pr (pr_move rfl rfl) rfl rfl ?_)
  refine L_op rfl (op_pr (pr_len_sl Try.underlying24 rfl rfl) rfl rfl ?_)
  refine L_op rfl (op_pr (pr_cmp (bo := .gtr) (nc_lt (a := 1500) (b := n)) rfl rfl rfl rfl) rfl rfl ?_)
  refine L_op rfl (op_pr (pr_move rfl rfl) rfl rfl ?_)
  rcases Bool.eq_false_or_eq_true (decide (1500 < n)) with hc_1 | hc_1
  · skip
    refine T_slot 12 (.bool (decide (1500 < n))) (.bool true) rfl (congrArg _ hc_1) ?_
    refine T_slot 11 (.bool (decide (1500 < n))) (.bool true) rfl (congrArg _ hc_1) ?_
    have hc_1 := of_decide_eq_true hc_1
    refine L_skip rfl rfl rfl ?_
    refine L_skip rfl rfl rfl ?_
    refine L_skip rfl rfl rfl ?_
    refine L_op rfl (op_pr (pr_pick_t rfl rfl rfl) rfl rfl ?_)
    refine L_nil ?_
    refine T_re [(0, (.slice A n c)), (1, (.slice B m d)), (16, (.bool true))] (sc rfl (sc rfl (sc rfl sn))) ?_
    refine T_he [0, 1] [.rd A 1 n c (xs.map b8), .rd B 1 m d (cuts.map bi)] ⟨by decide, rfl⟩ ?_
    refine T_cond_t rfl ?_
    refine T_seq ?_
    refine T_reg hF rfl ?_
    refine L_op rfl (op_call0 (vs := []) (cap := []) (fun w hw => awake_f  w (hok_nil w) ) (enters_of Try.func15 (by kernel_rfl) rfl) rfl rfl rfl rfl rfl (fun t2 q3 => ?_))
    refine L_op rfl (op_pr (pr_assign rfl rfl) rfl rfl ?_)
    refine L_nil ?_
    refine T_re [(4, (.bool true))] (sc rfl sn) ?_
    refine T_he [0, 1] [.rd A 1 n c (xs.map b8), .rd B 1 m d (cuts.map bi)] ⟨by decide, rfl⟩ ?_
    refine T_ret ?_
    exact T_fin () (by first | trivial | omega | (simp; done)) (res1 rfl rfl) [] ⟨by decide, rfl⟩ rfl
  · skip
    refine T_slot 12 (.bool (decide (1500 < n))) (.bool false) rfl (congrArg _ hc_1) ?_
    refine T_slot 11 (.bool (decide (1500 < n))) (.bool false) rfl (congrArg _ hc_1) ?_
    have hc_1 := of_decide_eq_false hc_1
    refine L_op rfl (op_pr (pr_move rfl rfl) rfl rfl ?_)
    refine L_op rfl (op_pr (pr_len_sl Try.underlying39 rfl rfl) rfl rfl ?_)
    refine L_op rfl (op_pr (pr_cmp (bo := .gtr) (nc_lt (a := 20) (b := m)) rfl rfl rfl rfl) rfl rfl ?_)
    refine L_op rfl (op_pr (pr_pick_f rfl rfl rfl) rfl rfl ?_)
    refine L_nil ?_
    refine T_re [(0, (.slice A n c)), (1, (.slice B m d)), (16, (.bool (decide (20 < m))))] (sc rfl (sc rfl (sc rfl sn))) ?_
    refine T_he [0, 1] [.rd A 1 n c (xs.map b8), .rd B 1 m d (cuts.map bi)] ⟨by decide, rfl⟩ ?_
    refine T_cond (decide (20 < m)) rfl (fun hc_4 => ?_) (fun hc_4 => ?_)
    · skip
      have hc_4 := of_decide_eq_true hc_4
      refine T_seq ?_
      refine T_reg hF rfl ?_
      refine L_op rfl (op_call0 (vs := []) (cap := []) (fun w hw => awake_f  w (hok_nil w) ) (enters_of Try.func15 (by kernel_rfl) rfl) rfl rfl rfl rfl rfl (fun t5 q6 => ?_))
      refine L_op rfl (op_pr (pr_assign rfl rfl) rfl rfl ?_)
      refine L_nil ?_
      refine T_re [(4, (.bool true))] (sc rfl sn) ?_
      refine T_he [0, 1] [.rd A 1 n c (xs.map b8), .rd B 1 m d (cuts.map bi)] ⟨by decide, rfl⟩ ?_
      refine T_ret ?_
      exact T_fin () (by first | trivial | omega | (simp; done)) (res1 rfl rfl) [] ⟨by decide, rfl⟩ rfl
    · skip
      have hc_4 := of_decide_eq_false hc_4
      refine T_skip ?_
      refine T_seq ?_
      refine T_reg hF rfl ?_
      refine L_op rfl (op_pr (pr_assign rfl rfl) rfl rfl ?_)
      refine L_nil ?_
      refine T_re [(0, (.slice A n c)), (1, (.slice B m d)), (5, (.slice none 0 0))] (sc rfl (sc rfl (sc rfl sn))) ?_
      refine T_he [0, 1] [.rd A 1 n c (xs.map b8), .rd B 1 m d (cuts.map bi)] ⟨by decide, rfl⟩ ?_
      refine T_seq ?_
      refine T_reg hF rfl ?_
      refine L_op rfl (op_pr (pr_move rfl rfl) rfl rfl ?_)
      refine L_op rfl (op_call0 (vs := [(.slice A n c)]) (cap := []) (fun w hw => copyBytes_f xs A n c w (hok_cons ((src_rd 0 rfl) w hw) (hok_nil w)) (by first | omega | (simp; done) | (simp; omega) | (simp [*]; done) | (simp [*]; omega))) (enters_of Try.func25 (by kernel_rfl) rfl) rfl rfl rfl rfl rfl (fun t7 q8 => ?_))
      obtain ⟨B9, d10⟩ := t7
      refine L_op rfl (op_pr (pr_assign rfl rfl) rfl rfl ?_)
      refine L_nil ?_
      refine T_re [(0, (.slice A n c)), (1, (.slice B m d)), (5, (.slice none 0 0)), (6, (.slice B9 n d10))] (sc rfl (sc rfl (sc rfl (sc rfl sn)))) ?_
      refine T_he [0, 1, 2] [.row (.slice B9 n d10) 5 1 n (xs.map b8), .rd A 1 n c (xs.map b8), .rd B 1 m d (cuts.map bi)] ⟨by decide, rfl⟩ ?_
      refine T_seq ?_
      refine T_seq ?_
      refine T_reg hF rfl ?_
      refine L_op rfl (op_pr (pr_assign rfl rfl) rfl rfl ?_)
      refine L_nil ?_
      refine T_re [(0, (.slice A n c)), (1, (.slice B m d)), (5, (.slice none 0 0)), (6, (.slice B9 n d10)), (7, (.int .i64 ((0 : Nat) : Int)))] (sc rfl (sc rfl (sc rfl (sc rfl (sc rfl sn))))) ?_
      refine T_he [0, 1, 2] [.row (.slice B9 n d10) 5 1 n (xs.map b8), .rd A 1 n c (xs.map b8), .rd B 1 m d (cuts.map bi)] ⟨by decide, rfl⟩ ?_
      refine T_block ?_
      refine T_old 0 rfl ?_
      refine T_tord 0 rfl ?_
      refine T_allnil ?_
      refine T_nilrow 24 1 ?_
      refine T_as 0 (.row (.slice none 0 0) 24 1 0 []) (.row (.slice none 0 0) 24 1 0 ([].map Pt.sl)) rfl (by first | rfl | simp | (congr 1; simp)) ?_
      refine T_loop (T := Nat × Option Addr × Nat × Option Addr × Nat × Nat × List (BitVec 8) × List Pt) (fun ⟨k, A1, c1, R, rn, rc, ys, Q⟩ => k ≤ m ∧ Q.length = k ∧ ys.length = rn ∧ catp Q ++ ys = xs ∧ rn ≤ n) (fun ⟨k, A1, c1, R, rn, rc, ys, Q⟩ => [(0, (.slice A n c)), (1, (.slice B m d)), (5, (.slice A1 k c1)), (6, (.slice R rn rc)), (7, (.int .i64 ((k : Nat) : Int)))]) (fun ⟨k, A1, c1, R, rn, rc, ys, Q⟩ => [.row (.slice A1 k c1) 24 1 k (Q.map Pt.sl), .rd R 1 rn rc (ys.map b8), .all Q, .rd A 1 n c (xs.map b8), .rd B 1 m d (cuts.map bi)]) (fun ⟨k, A1, c1, R, rn, rc, ys, Q⟩ => m - k) (0, none, 0, B9, n, d10, xs, []) (by simp [catp]; exact hx) (sc rfl (sc rfl (sc rfl (sc rfl (sc rfl sn))))) [0, 2, 1, 3, 4] ⟨by decide, rfl⟩ ?_
      rintro ⟨k, A1, c1, R, rn, rc, ys, Q⟩ hp
      have hp : k ≤ m ∧ Q.length = k ∧ ys.length = rn ∧ catp Q ++ ys = xs ∧ rn ≤ n := hp
      have hmq : ((BitVec.ofInt 64 (i64 (ath cuts k))).toNat) % (rn + 1) ≤ rn := Nat.le_of_lt_succ (Nat.mod_lt _ (Nat.succ_pos _))
      have hcat := hp.2.2.2.1
      have hyl := hp.2.2.1
      refine T_re [(0, (.slice A n c)), (1, (.slice B m d)), (5, (.slice A1 k c1)), (6, (.slice R rn rc)), (7, (.int .i64 ((k : Nat) : Int)))] (sc rfl (sc rfl (sc rfl (sc rfl (sc rfl sn))))) ?_
      refine T_he [0, 1, 2, 3, 4] [.row (.slice A1 k c1) 24 1 k (Q.map Pt.sl), .rd R 1 rn rc (ys.map b8), .all Q, .rd A 1 n c (xs.map b8), .rd B 1 m d (cuts.map bi)] ⟨by decide, rfl⟩ ?_
      refine T_seq ?_
      refine T_seq ?_
      refine T_reg hF rfl ?_
      refine L_op rfl (op_pr (pr_move rfl rfl) rfl rfl ?_)
      refine L_op rfl (op_pr (pr_move rfl rfl) rfl rfl ?_)
      refine L_op rfl (op_pr (pr_len_sl Try.underlying39 rfl rfl) rfl rfl ?_)
      refine L_op rfl (op_pr (pr_cmp (bo := .lss) (nc_lt (a := k) (b := m)) rfl rfl rfl rfl) rfl rfl ?_)
      refine L_nil ?_
      refine T_re [(0, (.slice A n c)), (1, (.slice B m d)), (5, (.slice A1 k c1)), (6, (.slice R rn rc)), (7, (.int .i64 ((k : Nat) : Int))), (23, (.bool (decide (k < m))))] (sc rfl (sc rfl (sc rfl (sc rfl (sc rfl (sc rfl sn)))))) ?_
      refine T_he [0, 1, 2, 3, 4] [.row (.slice A1 k c1) 24 1 k (Q.map Pt.sl), .rd R 1 rn rc (ys.map b8), .all Q, .rd A 1 n c (xs.map b8), .rd B 1 m d (cuts.map bi)] ⟨by decide, rfl⟩ ?_
      refine T_cond (decide (k < m)) rfl (fun hc_11 => ?_) (fun hc_11 => ?_)
      · skip
        have hc_11 := of_decide_eq_true hc_11
        refine T_skip ?_
        refine T_seq ?_
        refine T_block ?_
        refine T_seq ?_
        refine T_reg hF rfl ?_
        refine L_op rfl (op_pr (pr_move rfl rfl) rfl rfl ?_)
        refine L_op rfl (op_pr (pr_move rfl rfl) rfl rfl ?_)
        refine L_op rfl (op_pr (pr_ixs1 (j := k) (src_none (src_rd 4 rfl)) (by first | omega | (simp; done) | (simp; omega) | (simp [*]; done) | (simp [*]; omega)) Try.underlying39 (by kernel_rfl) rfl rfl rfl) rfl rfl ?_)
        refine L_op rfl (op_ld (ld_src (m := k) (src_rd 4 rfl) (geti (by first | omega | (simp; done) | (simp; omega) | (simp [*]; done) | (simp [*]; omega))) Try.underlying3 rfl rfl rfl) rfl rfl ?_)
        refine L_op rfl (op_pr (pr_cv (zc_u64 (i64 (ath cuts k))) Try.underlying3 Try.underlying37 rfl rfl) rfl rfl ?_)
        refine L_op rfl (op_pr (pr_move rfl rfl) rfl rfl ?_)
        refine L_op rfl (op_pr (pr_len_sl Try.underlying24 rfl rfl) rfl rfl ?_)
        refine L_op rfl (op_pr (pr_add (na_i64 (a := rn) (b := 1) (by first | omega | (simp; done) | (simp; omega) | (simp [*]; done) | (simp [*]; omega))) rfl rfl rfl) rfl rfl ?_)
        refine L_op rfl (op_pr (pr_cv (ni_u64 (a := rn + 1) (by first | omega | (simp; done) | (simp; omega) | (simp [*]; done) | (simp [*]; omega))) Try.underlying3 Try.underlying37 rfl rfl) rfl rfl ?_)
        refine L_op rfl (op_pr (pr_rem (a := (BitVec.ofInt 64 (i64 (ath cuts k))).toNat) (b := rn + 1) (by first | omega | (simp; done) | (simp; omega) | (simp [*]; done) | (simp [*]; omega)) rfl rfl rfl) rfl rfl ?_)
        refine L_op rfl (op_pr (pr_cv (ni_i64 (a := ((BitVec.ofInt 64 (i64 (ath cuts k))).toNat) % (rn + 1)) (by first | omega | (simp; done) | (simp; omega) | (simp [*]; done) | (simp [*]; omega))) Try.underlying37 Try.underlying3 rfl rfl) rfl rfl ?_)
        refine L_op rfl (op_pr (pr_assign rfl rfl) rfl rfl ?_)
        refine L_nil ?_
        obtain ⟨nn, hn_nn⟩ : ∃ x : Nat, ((BitVec.ofInt 64 (i64 (ath cuts k))).toNat) % (rn + 1) = x := ⟨_, rfl⟩
        have hnn : nn ≤ rn := by rw [← hn_nn]; exact Nat.le_of_lt_succ (Nat.mod_lt _ (Nat.succ_pos _))
        refine T_slot 8 (.int .i64 ((((BitVec.ofInt 64 (i64 (ath cuts k))).toNat) % (rn + 1) : Nat) : Int)) (.int .i64 ((nn : Nat) : Int)) rfl (by rw [hn_nn]) ?_
        refine T_re [(0, (.slice A n c)), (1, (.slice B m d)), (5, (.slice A1 k c1)), (6, (.slice R rn rc)), (7, (.int .i64 ((k : Nat) : Int))), (8, (.int .i64 ((nn : Nat) : Int)))] (sc rfl (sc rfl (sc rfl (sc rfl (sc rfl (sc rfl sn)))))) ?_
        refine T_he [0, 1, 2, 3, 4] [.row (.slice A1 k c1) 24 1 k (Q.map Pt.sl), .rd R 1 rn rc (ys.map b8), .all Q, .rd A 1 n c (xs.map b8), .rd B 1 m d (cuts.map bi)] ⟨by decide, rfl⟩ ?_
        refine T_seq ?_
        refine T_reg hF rfl ?_
        refine L_op rfl (op_pr (pr_move rfl rfl) rfl rfl ?_)
        refine L_op rfl (op_pr (pr_move rfl rfl) rfl rfl ?_)
        refine L_op rfl (op_pr (pr_move rfl rfl) rfl rfl ?_)
        refine L_op rfl (op_slice_rd (l := 0) (u := nn) 1 rfl (by first | omega | (simp; done) | (simp; omega) | (simp [*]; done) | (simp [*]; omega)) (by first | omega | (simp; done) | (simp; omega) | (simp [*]; done) | (simp [*]; omega)) Try.underlying24 (by kernel_rfl) rfl rfl rfl ⟨_, rfl⟩ rfl rfl (fun B12 => ?_))
        refine T_as 0 _ (.rd B12 1 nn rc ((List.take nn ys).map b8)) rfl (by congr 1; simp [List.map_take, List.map_drop] <;> omega) ?_
        refine T_slot 40 _ (.slice B12 nn rc) rfl (by congr 1) ?_
        refine L_op rfl (op_bslice (e := 24) (zs := [(.slice B12 nn rc)]) (qs := [(0, (.slice B12 nn rc))]) (fun _ => by kernel_rfl) rfl rfl rfl rfl (fun g13 => ?_))
        refine L_op rfl (op_append (z := (.slice none 0 0)) (size := 1) (bytes := 24) 2 rfl Try.underlying22 (by kernel_rfl) (by kernel_rfl) (by decide) (src_full (z := 1) 0 rfl rfl (by first | omega | (simp; done) | (simp; omega) | (simp [*]; done) | (simp [*]; omega)) (by first | omega | (simp; done) | (simp; omega) | (simp [*]; done) | (simp [*]; omega))) (by simp [Value.oneCell']) (by first | omega | (simp; done) | (simp; omega) | (simp [*]; done) | (simp [*]; omega)) (by first | omega | (simp; done) | (simp; omega) | (simp [*]; done) | (simp [*]; omega)) rfl rfl rfl rfl rfl (fun A14 C15 => ?_))
        refine T_as 0 (.row (.slice A14 (k + 1) C15) 24 1 (k + 1) ((Q.map Pt.sl) ++ [(.slice B12 nn rc)])) (.row (.slice A14 (k + 1) C15) 24 1 (k + 1) ((Q ++ [(Pt.mk B12 nn rc (List.take nn ys))]).map Pt.sl)) rfl (by first | rfl | (congr 1; simp; done) | (rw [List.map_append]; rfl)) ?_
        refine L_op rfl (op_pr (pr_assign rfl rfl) rfl rfl ?_)
        refine L_nil ?_
        refine T_re [(0, (.slice A n c)), (1, (.slice B m d)), (5, (.slice A14 (k + 1) C15)), (6, (.slice R rn rc)), (7, (.int .i64 ((k : Nat) : Int))), (8, (.int .i64 ((nn : Nat) : Int)))] (sc rfl (sc rfl (sc rfl (sc rfl (sc rfl (sc rfl sn)))))) ?_
        refine T_he [0, 1, 2, 3, 4, 5, 6] [.row (.slice A14 (k + 1) C15) 24 1 (k + 1) ((Q ++ [(Pt.mk B12 nn rc (List.take nn ys))]).map Pt.sl), .blk g13 24 [(.slice B12 nn rc)], .rd B12 1 nn rc ((List.take nn ys).map b8), .rd R 1 rn rc (ys.map b8), .all Q, .rd A 1 n c (xs.map b8), .rd B 1 m d (cuts.map bi)] ⟨by decide, rfl⟩ ?_
        refine T_reg hF rfl ?_
        refine L_op rfl (op_pr (pr_move rfl rfl) rfl rfl ?_)
        refine L_op rfl (op_pr (pr_move rfl rfl) rfl rfl ?_)
        refine L_op rfl (op_slice_rd (l := nn) (u := rn) 3 rfl (by first | omega | (simp; done) | (simp; omega) | (simp [*]; done) | (simp [*]; omega)) (by first | omega | (simp; done) | (simp; omega) | (simp [*]; done) | (simp [*]; omega)) Try.underlying24 (by kernel_rfl) rfl rfl ⟨_, rfl⟩ rfl rfl rfl (fun B16 => ?_))
        refine T_as 0 _ (.rd B16 1 (rn - nn) (rc - nn) ((List.drop nn ys).map b8)) rfl (by congr 1; first | rfl | (rw [List.take_of_length_le (by simp; omega)]; simp)) ?_
        refine L_op rfl (op_pr (pr_assign rfl rfl) rfl rfl ?_)
        refine L_nil ?_
        refine T_re [(0, (.slice A n c)), (1, (.slice B m d)), (5, (.slice A14 (k + 1) C15)), (6, (.slice B16 (rn - nn) (rc - nn))), (7, (.int .i64 ((k : Nat) : Int)))] (sc rfl (sc rfl (sc rfl (sc rfl (sc rfl sn))))) ?_
        refine T_he [0, 1, 2, 3, 4, 5, 6, 7] [.rd B16 1 (rn - nn) (rc - nn) ((List.drop nn ys).map b8), .row (.slice A14 (k + 1) C15) 24 1 (k + 1) ((Q ++ [(Pt.mk B12 nn rc (List.take nn ys))]).map Pt.sl), .blk g13 24 [(.slice B12 nn rc)], .rd B12 1 nn rc ((List.take nn ys).map b8), .rd R 1 rn rc (ys.map b8), .all Q, .rd A 1 n c (xs.map b8), .rd B 1 m d (cuts.map bi)] ⟨by decide, rfl⟩ ?_
        refine T_reg hF rfl ?_
        refine L_op rfl (op_pr (pr_move rfl rfl) rfl rfl ?_)
        refine L_op rfl (op_pr (pr_add (na_i64 (a := k) (b := 1) (by first | omega | (simp; done) | (simp; omega) | (simp [*]; done) | (simp [*]; omega))) rfl rfl rfl) rfl rfl ?_)
        refine L_op rfl (op_pr (pr_assign rfl rfl) rfl rfl ?_)
        refine L_nil ?_
        refine T_re [(0, (.slice A n c)), (1, (.slice B m d)), (5, (.slice A14 (k + 1) C15)), (6, (.slice B16 (rn - nn) (rc - nn))), (7, (.int .i64 ((k + 1 : Nat) : Int)))] (sc rfl (sc rfl (sc rfl (sc rfl (sc rfl sn))))) ?_
        refine T_he [0, 1, 2, 3, 4, 5, 6, 7] [.rd B16 1 (rn - nn) (rc - nn) ((List.drop nn ys).map b8), .row (.slice A14 (k + 1) C15) 24 1 (k + 1) ((Q ++ [(Pt.mk B12 nn rc (List.take nn ys))]).map Pt.sl), .blk g13 24 [(.slice B12 nn rc)], .rd B12 1 nn rc ((List.take nn ys).map b8), .rd R 1 rn rc (ys.map b8), .all Q, .rd A 1 n c (xs.map b8), .rd B 1 m d (cuts.map bi)] ⟨by decide, rfl⟩ ?_
        refine T_alladd 5 3 rfl rfl ?_
        exact T_again (k + 1, A14, C15, B16, rn - nn, rc - nn, (List.drop nn ys), (Q ++ [(Pt.mk B12 nn rc (List.take nn ys))])) (by refine ⟨by omega, by simp; omega, by simp; omega, ?_, by omega⟩; rw [← hcat]; simp [catp]) (by first | trivial | ((try dsimp only); first | omega | (refine ⟨?_, ?_⟩ <;> omega) | (refine ⟨?_, ?_, ?_⟩ <;> omega) | (simp; done) | (simp; omega))) (sc rfl (sc rfl (sc rfl (sc rfl (sc rfl sn))))) [2, 1, 0, 7, 8] ⟨by decide, rfl⟩
      · skip
        have hc_11 := of_decide_eq_false hc_11
        refine T_exit rfl ?_
        obtain rfl : m = k := by omega
        have hce : (catp (Q ++ [⟨R, rn, rc, ys⟩, ⟨none, 0, 0, []⟩])).length ≤ 1000000000 := by rw [parts_cat, hcat]; omega
        refine T_seq ?_
        refine T_reg hF rfl ?_
        refine L_op rfl (op_pr (pr_move rfl rfl) rfl rfl ?_)
        refine L_op rfl (op_pr (pr_move rfl rfl) rfl rfl ?_)
        refine L_op rfl (op_bslice (e := 24) (zs := [(.slice R rn rc), (.slice none 0 0)]) (qs := [(0, (.slice R rn rc)), (1, (.slice none 0 0))]) (fun _ => by kernel_rfl) rfl rfl rfl rfl (fun g17 => ?_))
        refine L_op rfl (op_append (z := (.slice none 0 0)) (size := 1) (bytes := 24) 1 rfl Try.underlying22 (by kernel_rfl) (by kernel_rfl) (by decide) (src_full (z := 1) 0 rfl rfl (by first | omega | (simp; done) | (simp; omega) | (simp [*]; done) | (simp [*]; omega)) (by first | omega | (simp; done) | (simp; omega) | (simp [*]; done) | (simp [*]; omega))) (by simp [Value.oneCell']) (by first | omega | (simp; done) | (simp; omega) | (simp [*]; done) | (simp [*]; omega)) (by first | omega | (simp; done) | (simp; omega) | (simp [*]; done) | (simp [*]; omega)) rfl rfl rfl rfl rfl (fun A18 C19 => ?_))
        refine T_as 0 (.row (.slice A18 (m + 2) C19) 24 1 (m + 2) ((Q.map Pt.sl) ++ [(.slice R rn rc), (.slice none 0 0)])) (.row (.slice A18 (m + 2) C19) 24 1 (m + 2) ((Q ++ [(Pt.mk R rn rc ys), (Pt.mk none 0 0 [])]).map Pt.sl)) rfl (by first | rfl | (congr 1; simp; done) | (rw [List.map_append]; rfl)) ?_
        refine L_op rfl (op_pr (pr_assign rfl rfl) rfl rfl ?_)
        refine L_nil ?_
        refine T_re [(0, (.slice A n c)), (5, (.slice A18 (m + 2) C19))] (sc rfl (sc rfl sn)) ?_
        refine T_he [0, 1, 2, 3, 4, 5] [.row (.slice A18 (m + 2) C19) 24 1 (m + 2) ((Q ++ [(Pt.mk R rn rc ys), (Pt.mk none 0 0 [])]).map Pt.sl), .blk g17 24 [(.slice R rn rc), (.slice none 0 0)], .rd R 1 rn rc (ys.map b8), .all Q, .rd A 1 n c (xs.map b8), .rd B 1 m d (cuts.map bi)] ⟨by decide, rfl⟩ ?_
        refine T_seq ?_
        refine T_reg hF rfl ?_
        refine L_op rfl (op_call0 (vs := []) (cap := []) (fun w hw => awake_f  w (hok_nil w) ) (enters_of Try.func15 (by kernel_rfl) rfl) rfl rfl rfl rfl rfl (fun t20 q21 => ?_))
        refine L_op rfl (op_pr (pr_move rfl rfl) rfl rfl ?_)
        refine L_op rfl (op_pr (pr_move rfl rfl) rfl rfl ?_)
        refine L_op rfl (op_call0 (vs := [(.slice A18 (m + 2) C19)]) (cap := []) (fun w hw => sum_f (Q ++ [(Pt.mk R rn rc ys), (Pt.mk none 0 0 [])]) A18 (m + 2) C19 w (hok_cons ((src_row 0 rfl) w hw) (hok_cons (all_app (hw _ (List.mem_of_getElem? (i := 3) rfl)) (all_cons ((src_rd 2 rfl) w hw) (all_cons ((src_nil 1) w hw) (all_nil w)))) (hok_nil w))) (by first | omega | (simp; done) | (simp; omega) | (simp [*]; done) | (simp [*]; omega)) (by first | assumption | omega | (simp [catp_cons, catp_nil]; done) | (simp [catp_cons, catp_nil]; omega)) (by first | omega | (simp; done) | (simp; omega) | (simp [*]; done) | (simp [*]; omega))) (enters_of Try.func17 (by kernel_rfl) rfl) rfl rfl rfl rfl rfl (fun t22 q23 => ?_))
        refine T_slot 53 (.agg ((shasum (catp (Q ++ [(Pt.mk R rn rc ys), (Pt.mk none 0 0 [])]))).map b8).toArray) (.agg ((shasum xs).map b8).toArray) rfl (by rw [parts_cat, hcat]) ?_
        refine L_op rfl (op_pr (pr_move rfl rfl) rfl rfl ?_)
        refine L_op rfl (op_bslice (e := 24) (zs := [(.slice A n c)]) (qs := [(0, (.slice A n c))]) (fun _ => by kernel_rfl) rfl rfl rfl rfl (fun g24 => ?_))
        refine L_op rfl (op_call0 (vs := [(.slice (some ⟨g24, 0, none⟩) 1 1)]) (cap := []) (fun w hw => sum_f [(Pt.mk A n c xs)] (some ⟨g24, 0, none⟩) 1 1 w (hok_cons ((src_full (z := 1) 0 rfl rfl (by first | omega | (simp; done) | (simp; omega) | (simp [*]; done) | (simp [*]; omega)) (by first | omega | (simp; done) | (simp; omega) | (simp [*]; done) | (simp [*]; omega))) w hw) (hok_cons (all_cons ((src_rd 5 rfl) w hw) (all_nil w)) (hok_nil w))) (by first | omega | (simp; done) | (simp; omega) | (simp [*]; done) | (simp [*]; omega)) (by first | assumption | omega | (simp [catp_cons, catp_nil]; done) | (simp [catp_cons, catp_nil]; omega)) (by first | omega | (simp; done) | (simp; omega) | (simp [*]; done) | (simp [*]; omega))) (enters_of Try.func17 (by kernel_rfl) rfl) rfl rfl rfl rfl rfl (fun t25 q26 => ?_))
        refine T_slot 56 (.agg ((shasum (catp [(Pt.mk A n c xs)])).map b8).toArray) (.agg ((shasum xs).map b8).toArray) rfl (by rw [catp_one]) ?_
        refine L_op rfl (op_pr (pr_eqagg (bo := .eql) (c := ((shasum xs) == (shasum xs))) (r := ((shasum xs) == (shasum xs))) (eqb8 (xs := (shasum xs)) (ys := (shasum xs)) Try.underlying26 Try.underlying5 (by kernel_rfl) (by first | omega | (simp; done) | (simp; omega) | (simp [*]; done) | (simp [*]; omega)) (by first | omega | (simp; done) | (simp; omega) | (simp [*]; done) | (simp [*]; omega))) (by kernel_rfl) rfl rfl rfl rfl rfl) rfl rfl ?_)
        refine L_op rfl (op_pr (pr_pick_t rfl rfl rfl) rfl rfl ?_)
        refine L_op rfl (op_pr (pr_move rfl rfl) rfl rfl ?_)
        refine T_slot 59 (.bool ((shasum xs) == (shasum xs))) (.bool true) rfl (congrArg _ (by simp)) ?_
        refine L_op rfl (op_call0 (vs := [(.slice none 0 0)]) (cap := []) (fun w hw => sum_f [] none 0 0 w (hok_cons ((src_nil 1) w hw) (hok_cons (all_nil w) (hok_nil w))) (by first | omega | (simp; done) | (simp; omega) | (simp [*]; done) | (simp [*]; omega)) (by first | assumption | omega | (simp [catp_cons, catp_nil]; done) | (simp [catp_cons, catp_nil]; omega)) (by first | omega | (simp; done) | (simp; omega) | (simp [*]; done) | (simp [*]; omega))) (enters_of Try.func17 (by kernel_rfl) rfl) rfl rfl rfl rfl rfl (fun t28 q29 => ?_))
        refine T_slot 60 (.agg ((shasum (catp [])).map b8).toArray) (.agg ((shasum []).map b8).toArray) rfl (rfl) ?_
        refine L_op rfl (op_bslice (e := 24) (zs := [(.slice none 0 0)]) (qs := [(0, (.slice none 0 0))]) (fun _ => by kernel_rfl) rfl rfl rfl rfl (fun g30 => ?_))
        refine L_op rfl (op_call0 (vs := [(.slice (some ⟨g30, 0, none⟩) 1 1)]) (cap := []) (fun w hw => sum_f ([(Pt.mk none 0 0 [])]) (some ⟨g30, 0, none⟩) 1 1 w (hok_cons ((src_full (z := 1) 0 rfl rfl (by first | omega | (simp; done) | (simp; omega) | (simp [*]; done) | (simp [*]; omega)) (by first | omega | (simp; done) | (simp; omega) | (simp [*]; done) | (simp [*]; omega))) w hw) (hok_cons (all_cons ((src_nil 1) w hw) (all_nil w)) (hok_nil w))) (by first | omega | (simp; done) | (simp; omega) | (simp [*]; done) | (simp [*]; omega)) (by first | assumption | omega | (simp [catp_cons, catp_nil]; done) | (simp [catp_cons, catp_nil]; omega)) (by first | omega | (simp; done) | (simp; omega) | (simp [*]; done) | (simp [*]; omega))) (enters_of Try.func17 (by kernel_rfl) rfl) rfl rfl rfl rfl rfl (fun t31 q32 => ?_))
        refine T_slot 62 (.agg ((shasum (catp ([(Pt.mk none 0 0 [])]))).map b8).toArray) (.agg ((shasum []).map b8).toArray) rfl (by rw [catp_one]) ?_
        refine L_op rfl (op_pr (pr_eqagg (bo := .eql) (c := ((shasum []) == (shasum []))) (r := ((shasum []) == (shasum []))) (eqb8 (xs := (shasum [])) (ys := (shasum [])) Try.underlying26 Try.underlying5 (by kernel_rfl) (by first | omega | (simp; done) | (simp; omega) | (simp [*]; done) | (simp [*]; omega)) (by first | omega | (simp; done) | (simp; omega) | (simp [*]; done) | (simp [*]; omega))) (by kernel_rfl) rfl rfl rfl rfl rfl) rfl rfl ?_)
        refine L_op rfl (op_pr (pr_pick_t rfl rfl rfl) rfl rfl ?_)
        refine L_op rfl (op_pr (pr_assign rfl rfl) rfl rfl ?_)
        refine L_nil ?_
        refine T_re [(4, (.bool ((shasum []) == (shasum []))))] (sc rfl sn) ?_
        refine T_he [0, 1, 2, 3, 4, 5, 6, 7] [.blk g30 24 [(.slice none 0 0)], .blk g24 24 [(.slice A n c)], .row (.slice A18 (m + 2) C19) 24 1 (m + 2) ((Q ++ [(Pt.mk R rn rc ys), (Pt.mk none 0 0 [])]).map Pt.sl), .blk g17 24 [(.slice R rn rc), (.slice none 0 0)], .rd R 1 rn rc (ys.map b8), .all Q, .rd A 1 n c (xs.map b8), .rd B 1 m d (cuts.map bi)] ⟨by decide, rfl⟩ ?_
        refine T_ret ?_
        refine T_slot 4 (.bool ((shasum []) == (shasum []))) (.bool true) rfl (by simp) ?_
        exact T_fin () (by first | trivial | omega | (simp; done)) (res1 rfl rfl) [] ⟨by decide, rfl⟩ rfl
theorem shaWords_f (z : Int) (w : World) (hO : HOK [] w) : Calls Try.prog 4 [(.int .i64 z)].toArray w (Ret (T := Unit) [] w (fun _ => True) (fun _ => (.bool true)) (fun _ => [])) := by
  by_cases h : z < 0
  · exact words_neg_f z w hO h
  · obtain ⟨n, rfl⟩ : ∃ n : Nat, z = (n : Int) := ⟨z.toNat, by omega⟩
    by_cases h2 : n ≤ 1099511627776
    · exact words_nat_f n w hO h2
    · exact words_big_f n w hO (by omega)

end Go.Proofs.Ytmhkmamenfmolaa
