/- Walks by facts, part 3: what the functions that the law reaches answer. No conditions but lengths. -/
import Derived.Test.YtlplpmkdebemnaaGreatYBlockBack2
import Derived.Test.YtlplpmkdebemnaaGreatProg
set_option linter.unusedVariables false
set_option linter.unusedSimpArgs false
set_option linter.unnecessarySimpa false
namespace Go.Proofs.YtlplpmkdebemnaaGreat
set_option maxRecDepth 100000
open Go.RowKit Bv Fw
def rdead : Rc := ⟨true, 0#64, 0#64, 0#64⟩
def pkl : List Rc → List (BitVec 8)
  | [] => []
  | x :: l => rpk x ++ pkl l
theorem pkl_len : ∀ xs, (pkl xs).length = 32 * xs.length
  | [] => rfl
  | x :: xs => by rw [pkl, List.length_append, rpk_len, pkl_len xs, List.length_cons]; omega
theorem pkl_app (xs ys : List Rc) : pkl (xs ++ ys) = pkl xs ++ pkl ys := by
  induction xs with
  | nil => rfl
  | cons x xs ih => rw [List.cons_append, pkl, pkl, ih, List.append_assoc]
theorem pkl_take (xs : List Rc) (k : Nat) (h : k < xs.length) : pkl (xs.take (k + 1)) = pkl (xs.take k) ++ rpk (rat xs k) := by
  rw [List.take_succ_eq_append_getElem h, pkl_app]
  congr 1
  rw [rat, List.getD_eq_getElem?_getD, List.getElem?_eq_getElem h]
  all_goals exact List.append_nil _
theorem pkl_rep (xs : List Rc) (j : Nat) : pkl (xs ++ List.replicate (j + 1) rdead) = pkl (xs ++ List.replicate j rdead) ++ rpk rdead := by
  rw [List.replicate_succ', ← List.append_assoc, pkl_app]
  congr 1
  all_goals exact List.append_nil _
def bpe (n : Nat) (z : Int) : Nat := if z < 1 ∨ 8 < z then 1 else if z < n then 5 else 0
def bpl (n : Nat) (z : Int) : Nat := if bpe n z = 0 then 32 * z.toNat else 0
def bpb (xs : List Rc) (z : Int) : List (BitVec 8) := if bpe xs.length z = 0 then pkl (xs ++ List.replicate (z.toNat - xs.length) rdead) else []
theorem bpe_arg {n : Nat} {z : Int} (h : z < 1 ∨ 8 < z) : bpe n z = 1 := by unfold bpe; rw [if_pos h]
theorem bpe_lim {n : Nat} {z : Int} (h1 : 1 ≤ z) (h2 : z ≤ 8) (h : z < n) : bpe n z = 5 := by unfold bpe; rw [if_neg oM, if_pos h]
theorem bpe_ok {n : Nat} {z : Int} (h1 : 1 ≤ z) (h2 : z ≤ 8) (h : ¬ z < n) : bpe n z = 0 := by unfold bpe; rw [if_neg oM, if_neg h]
theorem bpl_arg {n : Nat} {z : Int} (h : z < 1 ∨ 8 < z) : bpl n z = 0 := by unfold bpl; rw [bpe_arg h]; rfl
theorem bpl_lim {n : Nat} {z : Int} (h1 : 1 ≤ z) (h2 : z ≤ 8) (h : z < n) : bpl n z = 0 := by unfold bpl; rw [bpe_lim h1 h2 h]; rfl
theorem bpl_ok {n q : Nat} {z : Int} (hq : z = (q : Int)) (h1 : 1 ≤ z) (h2 : z ≤ 8) (h : ¬ z < n) : bpl n z = 32 * (n + (q - n)) := by unfold bpl; rw [if_pos (bpe_ok h1 h2 h)]; omega
theorem bpb_arg {xs : List Rc} {z : Int} (h : z < 1 ∨ 8 < z) : bpb xs z = [] := by unfold bpb; rw [bpe_arg h]; rfl
theorem bpb_lim {xs : List Rc} {z : Int} (h1 : 1 ≤ z) (h2 : z ≤ 8) (h : z < xs.length) : bpb xs z = [] := by unfold bpb; rw [bpe_lim h1 h2 h]; rfl
theorem bpb_ok {xs : List Rc} {n q : Nat} {z : Int} (hn : xs.length = n) (hq : z = (q : Int)) (h1 : 1 ≤ z) (h2 : z ≤ 8) (h : ¬ z < n) : bpb xs z = pkl (xs ++ List.replicate (q - n) rdead) := by
  subst hn hq
  unfold bpb; rw [if_pos (bpe_ok h1 h2 h)]; rfl
theorem bpb_len {xs : List Rc} {n : Nat} {z : Int} (hn : xs.length = n) : (bpb xs z).length = bpl n z := by
  subst hn
  unfold bpb bpl
  split
  · rename_i h
    have : 1 ≤ z ∧ z ≤ 8 ∧ ¬ z < xs.length := by
      unfold bpe at h
      split at h
      · cases h
      · split at h
        · cases h
        · omega
    rw [pkl_len, List.length_append, List.length_replicate]; omega
  · rfl
def mayb (z : Int) : Bool := decide (1 ≤ z) && decide (z ≤ 8)
theorem mayb_f {z : Int} (h : (!mayb z) = true) : z < 1 ∨ 8 < z := by unfold mayb at h; simp at h; omega
theorem mayb_t {z : Int} (h : (!mayb z) = false) : 1 ≤ z ∧ z ≤ 8 := by unfold mayb at h; simp at h; omega
theorem mayb_1 {z : Int} (h : ¬ ((1 : Nat) : Int) ≤ z) : mayb z = false := by unfold mayb; simp; omega
theorem mayb_2 {z : Int} (h : ((1 : Nat) : Int) ≤ z) : mayb z = decide (z ≤ ((8 : Nat) : Int)) := by unfold mayb; rw [decide_eq_true (show 1 ≤ z from h)]; rfl
def bsz (z : Int) : Int := 32 * max 0 (min z 8) + 16
set_option maxHeartbeats 4000000 in
theorem valsr_seq (xs : List Rc) (A : Option Addr) (n : Nat) (c : Nat) (g1 : Nat) (hx : xs.length = n) (hn : n ≤ 1000000) : SeqC (Θ := Unit) Tryz.prog 48 [(.pointer (some ⟨g1, 0, none⟩))] [.rd (some ⟨g1, 0, none⟩) 1 1 1 [(.slice A n c)], .rd A 4 n c (rcs xs)] n (fun k _ => [(.agg [(.bool ((rat xs k).d)), (.int .i64 (i64 (rat xs k).k)), (.int .i64 (i64 (rat xs k).v)), (.int .i64 (i64 (rat xs k).s))].toArray)]) (fun k _ => []) := by
 have hF : Wid Fence.wide := wid_wide
 refine enter_seq (c := _) Tryz.func48 rfl (by rw [Tryz.ntmps48]; rfl) rfl ?_
 intro l J Jx W O R hsJ hsX hy hend
 rw [Tryz.ntmps48]
 refine lE [(0, (.func (.yield l) #[] #[])), (1, (.pointer (some ⟨g1, 0, none⟩)))] ?_
 refine lH [0, 1, 2] [.inv W.heap.size O R (J 0 O R), .rd (some ⟨g1, 0, none⟩) 1 1 1 [(.slice A n c)], .rd A 4 n c (rcs xs)] ?_
 refine lT ?_
 refine lQ (ld_rdb (src_rd 1 rfl) rfl Tryz.underlying26 rfl rfl rfl) ?_
 refine lO (pr_len_sl Tryz.underlying26 rfl rfl) ?_
 refine lM ?_
 refine L_nil ?_
 refine T_block ?_
 refine T_loop (T := Nat × List Nat × List Nat) (fun ⟨k, O, R⟩ => k ≤ n) (fun ⟨k, O, R⟩ => [(0, (.func (.yield l) #[] #[])), (5, (.slice A n c)), (6, (.int .i64 ((n : Nat) : Int))), (7, (.int .i64 ((k : Nat) : Int)))]) (fun ⟨k, O, R⟩ => [.inv W.heap.size O R (J k O R), .rd (some ⟨g1, 0, none⟩) 1 1 1 [(.slice A n c)], .rd A 4 n c (rcs xs)]) (fun ⟨k, O, R⟩ => n - k) (0, O, R) pN (sc rfl (sc rfl (sc rfl (sc rfl sn)))) [0, 1, 2] ⟨by decide, rfl⟩ ?_
 rintro ⟨k, O, R⟩ hp
 have hp : k ≤ n := hp
 refine lE [(0, (.func (.yield l) #[] #[])), (5, (.slice A n c)), (6, (.int .i64 ((n : Nat) : Int))), (7, (.int .i64 ((k : Nat) : Int)))] ?_
 refine lH [0, 1, 2] [.inv W.heap.size O R (J k O R), .rd (some ⟨g1, 0, none⟩) 1 1 1 [(.slice A n c)], .rd A 4 n c (rcs xs)] ?_
 refine lT ?_
 refine lO (pr_cmp (bo := .lss) (nc_lt (a := k) (b := n)) rfl rfl rfl rfl) ?_
 refine L_nil ?_
 refine T_seq ?_
 refine T_cond (decide (k < n)) rfl (fun hc_1 => ?_) (fun hc_1 => ?_)
 ·have hc_1 := of_decide_eq_true hc_1
  refine T_skip ?_
  refine T_seq ?_
  refine T_block ?_
  refine lT ?_
  refine lO (pr_ixs (j := k) (src_none (src_rd 2 rfl)) sd Tryz.underlying26 (z := 4) kr rfl rfl rfl) ?_
  refine lQ (ld_rc (j := k) (src_rd 2 rfl) sd Tryz.underlying37 rfl kr rfl rfl) ?_
  refine L_op rfl (op_alloc (z := .agg [(.bool false), (.int .i64 ((0 : Nat) : Int)), (.int .i64 ((0 : Nat) : Int)), (.int .i64 ((0 : Nat) : Int))].toArray) (zs := [(.bool false), (.int .i64 ((0 : Nat) : Int)), (.int .i64 ((0 : Nat) : Int)), (.int .i64 ((0 : Nat) : Int))]) kr rfl rfl rfl rfl (fun g2 => ?_))
  refine L_op rfl (op_sto (n := 4) (vs := [(.bool ((rat xs k).d)), (.int .i64 (i64 (rat xs k).k)), (.int .i64 (i64 (rat xs k).v)), (.int .i64 (i64 (rat xs k).s))]) 0 rfl rfl kr (by simp [Value.oneCell']) kr kr rfl rfl rfl rfl ?_)
  refine L_nil ?_
  refine T_seq ?_
  refine T_regI ?_
  refine LI_opP hF rfl rfl (op_pr (pr_move rfl rfl) rfl rfl ?_)
  refine LI_opP hF rfl rfl (op_ld (ld_agg (ds := [(.bool ((rat xs k).d)), (.int .i64 (i64 (rat xs k).k)), (.int .i64 (i64 (rat xs k).v)), (.int .i64 (i64 (rat xs k).s))]) 0 rfl agg_all Tryz.underlying37 rfl kr rfl rfl) rfl rfl ?_)
  refine LI_op rfl (op_yield (k := k) () hy sd hsJ hsX 1 rfl [] rfl rfl rfl rfl rfl rfl rfl rfl rfl (fun _ => trivial) (fun O3 R4 => ?_) (fun O5 R6 => ?_))
  ·refine LI_opP hF rfl rfl (op_pr (pr_un (v := .bool false) rfl rfl rfl) rfl rfl ?_)
   refine LI_nil ?_
   refine T_cond_f rfl ?_
   refine T_skip ?_
   refine lR ?_
   refine lO (pr_add (na_i64 (a := k) (b := 1) sd) rfl rfl rfl) ?_
   refine lM ?_
   refine L_nil ?_
   exact T_again (k + 1, O3, R4) pN pN (sc rfl (sc rfl (sc rfl (sc rfl sn)))) [0, 2, 3] ⟨by decide, rfl⟩
  refine LI_opP hF rfl rfl (op_pr (pr_un (v := .bool true) rfl rfl rfl) rfl rfl ?_)
  refine LI_nil ?_
  refine T_cond_t rfl ?_
  refine T_ret ?_
  exact T_finX rfl rfl 0 rfl
 have hc_1 := of_decide_eq_false hc_1
 refine T_exit rfl ?_
 obtain rfl : k = n := by omega
 exact T_finJ rfl rfl 0 rfl
set_option maxHeartbeats 4000000 in
theorem valsr_f (A : Option Addr) (n : Nat) (c : Nat) (w : World) (hO : HOK [] w)  : Calls Tryz.prog 30 [(.slice A n c)].toArray w (Ret (T := Nat) [] w (fun g1 => True) (fun g1 => (.func (.func 48) #[] [(.pointer (some ⟨g1, 0, none⟩))].toArray)) (fun g1 => [.old (some ⟨g1, 0, none⟩) 1 1 1 [(.slice A n c)]])) := by
 refine enter (c := _) Tryz.func30 rfl [] _ [] (by rw [Tryz.ntmps30]; rfl) (own_rds hO rfl) ?_
 rw [Tryz.ntmps30]
 refine lE [(0, (.slice A n c))] ?_
 refine lH [] [] ?_
 refine lT ?_
 refine L_op rfl (op_box (zs := [(.slice A n c)]) rfl rfl rfl rfl rfl (fun g1 => ?_))
 refine lS ?_
 refine lN ?_
 refine lO (pr_mkfn (us := []) (vs := [(.pointer (some ⟨g1, 0, none⟩))]) rfl rfl rfl) ?_
 refine lS ?_
 refine L_nil ?_
 refine T_ret ?_
 refine T_oldb 0 (zs := [(.slice A n c)]) 0 1 1 1 rfl rfl rfl sd sd ?_
 exact T_fin g1 qN (res1 rfl rfl) [0] ⟨by decide, rfl⟩ rfl
set_option maxHeartbeats 4000000 in
theorem may_f (z : Int) (w : World) (hO : HOK [] w)  : Calls Tryz.prog 22 [(.int .i64 z)].toArray w (Ret (T := Unit) [] w (fun _ => True) (fun _ => (.bool (mayb z))) (fun _ => [])) := by
 refine enter (c := _) Tryz.func22 rfl [] _ [] (by rw [Tryz.ntmps22]; rfl) (own_rds hO rfl) ?_
 rw [Tryz.ntmps22]
 refine lE [(0, (.int .i64 z))] ?_
 refine lH [] [] ?_
 refine lT ?_
 refine lS ?_
 refine lN ?_
 refine lM ?_
 refine lO (pr_cmp (bo := .geq) (k := .i64) (a := z) (b := ((1 : Nat) : Int)) (c := decide (((1 : Nat) : Int) ≤ z)) rfl rfl rfl rfl rfl) ?_
 refine lM ?_
 rcases Bool.eq_false_or_eq_true (decide (((1 : Nat) : Int) ≤ z)) with hc_1 | hc_1
 ·refine T_slot 5 (.bool (decide (((1 : Nat) : Int) ≤ z))) (.bool true) rfl (congrArg _ hc_1) ?_
  refine T_slot 4 (.bool (decide (((1 : Nat) : Int) ≤ z))) (.bool true) rfl (congrArg _ hc_1) ?_
  have hc_1 := of_decide_eq_true hc_1
  refine lM ?_
  refine lO (pr_cmp (bo := .leq) (k := .i64) (a := z) (b := ((8 : Nat) : Int)) (c := decide (z ≤ ((8 : Nat) : Int))) rfl rfl rfl rfl rfl) ?_
  refine lO (pr_pick_t rfl rfl rfl) ?_
  refine lS ?_
  refine L_nil ?_
  refine T_ret ?_
  refine T_slot 2 (.bool (decide (z ≤ ((8 : Nat) : Int)))) (.bool (mayb z)) rfl (by rw [mayb_2 aS]) ?_
  exact T_fin () qN (res1 rfl rfl) [] ⟨by decide, rfl⟩ rfl
 refine T_slot 5 (.bool (decide (((1 : Nat) : Int) ≤ z))) (.bool false) rfl (congrArg _ hc_1) ?_
 refine T_slot 4 (.bool (decide (((1 : Nat) : Int) ≤ z))) (.bool false) rfl (congrArg _ hc_1) ?_
 have hc_1 := of_decide_eq_false hc_1
 refine L_skip rfl rfl rfl ?_
 refine L_skip rfl rfl rfl ?_
 refine lO (pr_pick_f rfl rfl rfl) ?_
 refine lS ?_
 refine L_nil ?_
 refine T_ret ?_
 refine T_slot 2 (.bool false) (.bool (mayb z)) rfl (by rw [mayb_1 aS]) ?_
 exact T_fin () qN (res1 rfl rfl) [] ⟨by decide, rfl⟩ rfl
set_option maxHeartbeats 4000000 in
theorem rmay_f (z : Int) (w : World) (hO : HOK [] w)  : Calls Tryz.prog 25 [(.int .i64 z)].toArray w (Ret (T := Unit) [] w (fun _ => True) (fun _ => (.bool (mayb z))) (fun _ => [])) := by
 refine enter (c := _) Tryz.func25 rfl [] _ [] (by rw [Tryz.ntmps25]; rfl) (own_rds hO rfl) ?_
 rw [Tryz.ntmps25]
 refine lE [(0, (.int .i64 z))] ?_
 refine lH [] [] ?_
 refine lT ?_
 refine lS ?_
 refine lN ?_
 refine lM ?_
 refine lO (pr_cmp (bo := .geq) (k := .i64) (a := z) (b := ((1 : Nat) : Int)) (c := decide (((1 : Nat) : Int) ≤ z)) rfl rfl rfl rfl rfl) ?_
 refine lM ?_
 rcases Bool.eq_false_or_eq_true (decide (((1 : Nat) : Int) ≤ z)) with hc_1 | hc_1
 ·refine T_slot 5 (.bool (decide (((1 : Nat) : Int) ≤ z))) (.bool true) rfl (congrArg _ hc_1) ?_
  refine T_slot 4 (.bool (decide (((1 : Nat) : Int) ≤ z))) (.bool true) rfl (congrArg _ hc_1) ?_
  have hc_1 := of_decide_eq_true hc_1
  refine lM ?_
  refine lO (pr_cmp (bo := .leq) (k := .i64) (a := z) (b := ((8 : Nat) : Int)) (c := decide (z ≤ ((8 : Nat) : Int))) rfl rfl rfl rfl rfl) ?_
  refine lO (pr_pick_t rfl rfl rfl) ?_
  refine lS ?_
  refine L_nil ?_
  refine T_ret ?_
  refine T_slot 2 (.bool (decide (z ≤ ((8 : Nat) : Int)))) (.bool (mayb z)) rfl (by rw [mayb_2 aS]) ?_
  exact T_fin () qN (res1 rfl rfl) [] ⟨by decide, rfl⟩ rfl
 refine T_slot 5 (.bool (decide (((1 : Nat) : Int) ≤ z))) (.bool false) rfl (congrArg _ hc_1) ?_
 refine T_slot 4 (.bool (decide (((1 : Nat) : Int) ≤ z))) (.bool false) rfl (congrArg _ hc_1) ?_
 have hc_1 := of_decide_eq_false hc_1
 refine L_skip rfl rfl rfl ?_
 refine L_skip rfl rfl rfl ?_
 refine lO (pr_pick_f rfl rfl rfl) ?_
 refine lS ?_
 refine L_nil ?_
 refine T_ret ?_
 refine T_slot 2 (.bool false) (.bool (mayb z)) rfl (by rw [mayb_1 aS]) ?_
 exact T_fin () qN (res1 rfl rfl) [] ⟨by decide, rfl⟩ rfl
set_option maxHeartbeats 4000000 in
theorem bsize_f (z : Int) (w : World) (hO : HOK [] w)  : Calls Tryz.prog 12 [(.int .i64 z)].toArray w (Ret (T := Unit) [] w (fun _ => True) (fun _ => (.int .i64 (bsz z))) (fun _ => [])) := by
 refine enter (c := _) Tryz.func12 rfl [] _ [] (by rw [Tryz.ntmps12]; rfl) (own_rds hO rfl) ?_
 rw [Tryz.ntmps12]
 refine lE [(0, (.int .i64 z))] ?_
 refine lH [] [] ?_
 refine lT ?_
 refine lS ?_
 refine lN ?_
 refine lM ?_
 refine lO (pr_min (a := z) (b := ((8 : Nat) : Int)) rfl rfl rfl) ?_
 refine T_slot 4 _ (.int .i64 (min z 8)) rfl (by congr 1; omega) ?_
 refine lO (pr_max (a := ((0 : Nat) : Int)) (b := (min z 8)) rfl rfl rfl) ?_
 refine T_slot 5 _ (.int .i64 (max 0 (min z 8))) rfl (by congr 1; omega) ?_
 refine lO (pr_mul (zw_i64 (z := (((32 : Nat) : Int) * (max 0 (min z 8)))) sd) rfl rfl rfl) ?_
 refine lO (pr_add (zw_i64 (z := ((((32 : Nat) : Int) * (max 0 (min z 8))) + ((16 : Nat) : Int))) sd) rfl rfl rfl) ?_
 refine lS ?_
 refine L_nil ?_
 refine T_ret ?_
 refine T_slot 2 _ (.int .i64 (bsz z)) rfl (by rfl) ?_
 exact T_fin () qN (res1 rfl rfl) [] ⟨by decide, rfl⟩ rfl
set_option maxHeartbeats 4000000 in
theorem bpack_f (xs : List Rc) (z : Int) (A : Option Addr) (n : Nat) (c : Nat) (w : World) (hO : HOK [.rd A 4 n c (rcs xs)] w) (hx : xs.length = n) (hn : n ≤ 1000) : Calls Tryz.prog 13 [(.slice A n c), (.int .i64 z)].toArray w (Ret (T := Option Addr × Nat) [] w (fun ⟨B, e⟩ => True) (fun ⟨B, e⟩ => (.tuple [(.slice B (bpl n z) e), (.int .i64 (((bpe n z) : Nat) : Int))].toArray)) (fun ⟨B, e⟩ => [.row (.slice B (bpl n z) e) 5 1 (bpl n z) ((bpb xs z).map b8)])) := by
 have hrd := rpk_len (Rc.mk true 0#64 0#64 0#64)
 have hF : Wid Fence.wide := wid_wide
 refine enter_m (c := _) Tryz.func13 rfl [] _ [.rd A 4 n c (rcs xs)] (by rw [Tryz.ntmps13]; rfl) (own_rds hO rfl) ?_
 rw [Tryz.ntmps13]
 refine lE [(0, (.slice A n c)), (1, (.int .i64 z))] ?_
 refine lH [0] [.rd A 4 n c (rcs xs)] ?_
 refine lT ?_
 refine lS ?_
 refine lS ?_
 refine L_nil ?_
 refine T_seq ?_
 refine T_block ?_
 refine lT ?_
 refine lM ?_
 refine L_op rfl (op_cn (fun w hw => may_f z w (hok_nil w) ) (enters_of Tryz.func22 kr rfl) rfl rfl rfl rfl rfl (fun t1 q2 => ?_))
 refine lO (pr_un rfl rfl rfl) ?_
 refine lS ?_
 refine L_nil ?_
 refine T_cond (!(mayb z)) rfl (fun hc_3 => ?_) (fun hc_3 => ?_)
 ·refine lT ?_
  refine lS ?_
  refine lS ?_
  refine L_nil ?_
  refine T_ret ?_
  refine T_slot 4 (.slice none 0 0) (.slice none (bpl n z) 0) rfl (by rw [bpl_arg (mayb_f aS)]) ?_
  refine T_slot 5 (.int .i64 ((1 : Nat) : Int)) (.int .i64 (((bpe n z) : Nat) : Int)) rfl (by rw [bpe_arg (mayb_f aS)]) ?_
  refine T_nilrow 5 1 ?_
  refine T_as 0 _ (.row (.slice none (bpl n z) 0) 5 1 (bpl n z) ((bpb xs z).map b8)) rfl (by rw [bpl_arg (mayb_f aS), bpb_arg (mayb_f aS)]; rfl) ?_
  exact T_finM0 (none, 0) qN (res2 rfl rfl rfl) [0] ⟨by decide, rfl⟩ rfl
 refine lT ?_
 refine lM ?_
 obtain ⟨hz1, hz2⟩ := mayb_t (z := z) aS
 refine lO (pr_len_sl Tryz.underlying26 rfl rfl) ?_
 refine lM ?_
 refine lO (pr_cmp (bo := .gtr) (k := .i64) (a := ((n : Nat) : Int)) (b := z) (c := decide (z < ((n : Nat) : Int))) rfl rfl rfl rfl rfl) ?_
 refine lS ?_
 refine L_nil ?_
 refine T_cond (decide (z < ((n : Nat) : Int))) rfl (fun hc_4 => ?_) (fun hc_4 => ?_)
 ·have hc_4 := of_decide_eq_true hc_4
  refine lT ?_
  refine lS ?_
  refine lS ?_
  refine L_nil ?_
  refine T_ret ?_
  refine T_slot 4 (.slice none 0 0) (.slice none (bpl n z) 0) rfl (by rw [bpl_lim hz1 hz2 aS]) ?_
  refine T_slot 5 (.int .i64 ((5 : Nat) : Int)) (.int .i64 (((bpe n z) : Nat) : Int)) rfl (by rw [bpe_lim hz1 hz2 aS]) ?_
  refine T_nilrow 5 1 ?_
  refine T_as 0 _ (.row (.slice none (bpl n z) 0) 5 1 (bpl n z) ((bpb xs z).map b8)) rfl (by rw [bpl_lim hz1 hz2 aS, bpb_lim hz1 hz2 oM]; rfl) ?_
  exact T_finM0 (none, 0) qN (res2 rfl rfl rfl) [0] ⟨by decide, rfl⟩ rfl
 have hc_4 := of_decide_eq_false hc_4
 refine T_skip ?_
 refine lT ?_
 refine L_op rfl (op_alloc (z := (.slice none 0 0)) (zs := [(.slice none 0 0)]) kr rfl rfl rfl rfl (fun g5 => ?_))
 obtain ⟨q, hq⟩ : ∃ q : Nat, z = (q : Int) := ⟨z.toNat, by omega⟩
 refine T_slot 1 (.int .i64 z) (.int .i64 ((q : Nat) : Int)) rfl (by rw [hq]) ?_
 refine L_nil ?_
 refine T_seq ?_
 refine lT ?_
 refine lM ?_
 refine L_op rfl (op_cn (fun w hw => valsr_f A n c w (hok_nil w) ) (enters_of Tryz.func30 kr rfl) rfl rfl rfl rfl rfl (fun t6 q7 => ?_))
 obtain ⟨g1_8, eg1_8⟩ : ∃ x, x = t6 := ⟨_, rfl⟩
 subst eg1_8
 refine L_nil ?_
 refine T_block ?_
 refine T_tord 0 rfl ?_
 refine T_nilrow 5 1 ?_
 refine T_as 0 _ (.row (.slice none (32 * 0) 0) 5 1 (32 * 0) ((pkl (xs.take 0)).map b8)) rfl (by rfl) ?_
 refine T_as 2 _ (.blk g5 27 [(.slice none (32 * 0) 0)]) rfl (by rfl) ?_
 refine T_range (Θ := Unit) (T := Option Addr × Nat) (Tx := Unit) (cap := [(.pointer (some ⟨g1_8, 0, none⟩))]) (ps := [21]) (valsr_seq xs A n c g1_8 sd sd) rfl (enters_of Tryz.func48 kr rfl) (fun k ⟨A1, c1⟩ => k ≤ n) (fun k ⟨A1, c1⟩ => [.row (.slice A1 (32 * k) c1) 5 1 (32 * k) ((pkl (xs.take k)).map b8), .blk g5 27 [(.slice A1 (32 * k) c1)], .rd A 4 n c (rcs xs)]) (fun _ => False) (fun _ => []) 0 (none, 0) oM [1, 0, 3] ⟨by decide, rfl⟩ [2, 3] rfl rfl (fun _ _ => rfl) (fun _ => rfl) (fun _ _ => rfl) (fun _ _ => rfl) rfl (fun _ => trivial) ?_ ?_ ?_
 ·intro C2 w2 lo2 rs2 l D m k t th rc hrec hk hp
  obtain ⟨A1, c1⟩ := t
  have hp : k ≤ n := hp
  have hk : k < n := hk
  have hrk : (rpk (Rc.mk (rat xs k).d (rat xs k).k (rat xs k).v (rat xs k).s)).length = 32 := rpk_len _
  have hF : Wid (Fence.wide.inRound l) := wid_round l
  refine lE [(6, (.pointer (some ⟨g5, 0, none⟩))), (21, (.agg [(.bool ((rat xs k).d)), (.int .i64 (i64 (rat xs k).k)), (.int .i64 (i64 (rat xs k).v)), (.int .i64 (i64 (rat xs k).s))].toArray))] ?_
  refine lH [0, 1, 2, 3, 4] [.obj l (.loop rc), .obj D (.deferred (some [])), .row (.slice A1 (32 * k) c1) 5 1 (32 * k) ((pkl (xs.take k)).map b8), .blk g5 27 [(.slice A1 (32 * k) c1)], .rd A 4 n c (rcs xs)] ?_
  refine lR ?_
  refine L_op rfl (op_alloc (z := .agg [(.bool false), (.int .i64 ((0 : Nat) : Int)), (.int .i64 ((0 : Nat) : Int)), (.int .i64 ((0 : Nat) : Int))].toArray) (zs := [(.bool false), (.int .i64 ((0 : Nat) : Int)), (.int .i64 ((0 : Nat) : Int)), (.int .i64 ((0 : Nat) : Int))]) kr rfl rfl rfl rfl (fun g9 => ?_))
  refine L_op rfl (op_sto (n := 4) (vs := [(.bool ((rat xs k).d)), (.int .i64 (i64 (rat xs k).k)), (.int .i64 (i64 (rat xs k).v)), (.int .i64 (i64 (rat xs k).s))]) 0 rfl rfl kr (by simp [Value.oneCell']) kr kr rfl rfl rfl rfl ?_)
  refine L_nil ?_
  refine T_begun 1 rfl hrec ?_
  refine T_block ?_
  refine lT ?_
  refine lQ (ld_agg (ds := [(.bool ((rat xs k).d)), (.int .i64 (i64 (rat xs k).k)), (.int .i64 (i64 (rat xs k).v)), (.int .i64 (i64 (rat xs k).s))]) 1 rfl agg_all Tryz.underlying37 rfl kr rfl rfl) ?_
  refine L_op rfl (op_cn (fun w hw => rpack_f ((rat xs k).d) ((rat xs k).k) ((rat xs k).v) ((rat xs k).s) w (hok_nil w) ) (enters_of Tryz.func31 kr rfl) rfl rfl rfl rfl rfl (fun t10 q11 => ?_))
  refine L_op rfl (op_alloc (z := .agg ((List.replicate 32 0#8).map b8).toArray) (zs := ((List.replicate 32 0#8).map b8)) kr rfl rfl rfl rfl (fun g12 => ?_))
  refine L_op rfl (op_sto (n := 32) (vs := ((rpk (Rc.mk ((rat xs k).d) ((rat xs k).k) ((rat xs k).v) ((rat xs k).s))).map b8)) 0 rfl rfl kr (all8_one _) kr sd rfl rfl rfl rfl ?_)
  refine L_nil ?_
  refine T_regD [.blk g12 22 ((rpk (Rc.mk ((rat xs k).d) ((rat xs k).k) ((rat xs k).v) ((rat xs k).s))).map b8), .obj l (.loop { rc with state := .busy }), .blk g9 37 [(.bool ((rat xs k).d)), (.int .i64 (i64 (rat xs k).k)), (.int .i64 (i64 (rat xs k).v)), (.int .i64 (i64 (rat xs k).s))], .obj D (.deferred (some [])), .row (.slice A1 (32 * k) c1) 5 1 (32 * k) ((pkl (xs.take k)).map b8), .blk g5 27 [(.slice A1 (32 * k) c1)], .rd A 4 n c (rcs xs)] 2 4 #[false, false, false, false] hF kr kr ?_
  refine D_pure (i := 1) [0, 1, 2, 3, 4, 5, 6] rfl kr rfl (pr_sla (l := 0) (u := 32) (m := 0) sd sd sd rfl Tryz.underlying22 (z := 1) kr rfl rfl rfl rfl) (.inr rfl) rfl rfl ?_
  refine D_take (i := 0) [0, 1, 2, 3, 4, 5, 6] rfl kr rfl (ld_blk 5 rfl rfl Tryz.underlying27 rfl rfl rfl) rfl rfl rfl ?_
  refine D_one 2 _ rfl kr rfl (op_append (z := (b8 (0#8))) (size := 1) (bytes := 1) 4 rfl Tryz.underlying27 kr kr (by decide) (src_full (z := 1) 0 rfl sd sd sd) (all8_one _) sd sd rfl rfl rfl rfl rfl (fun A13 C14 => ?_))
  refine T_as 0 _ (.row (.slice A13 (32 * k + 32) C14) 5 1 (32 * k + 32) (((pkl (xs.take k)) ++ (rpk (Rc.mk ((rat xs k).d) ((rat xs k).k) ((rat xs k).v) ((rat xs k).s)))).map b8)) rfl (by congr 1; simp; done) ?_
  refine D_past kr ?_
  refine D_one 3 _ rfl kr rfl (op_store (vs := [(.slice A13 (32 * k + 32) C14)]) (cs' := [(.slice A13 (32 * k + 32) C14)]) 5 rfl rfl kr (one_one rfl) (by simp) rfl rfl rfl rfl rfl ?_)
  refine D_past kr ?_
  refine D_done kr ?_
  refine T_as 1 _ (.row (.slice A13 (32 * (k + 1)) C14) 5 1 (32 * (k + 1)) ((pkl (xs.take (k + 1))).map b8)) rfl (by rw [pkl_take _ _ oM]; rfl) ?_
  refine T_as 1 _ (.blk g5 27 [(.slice A13 (32 * (k + 1)) C14)]) rfl (by congr 1) ?_
  exact T_on (A13, C14) oM [3, 5, 1, 0, 6] ⟨by decide, rfl⟩
 ·intro D t hp
  obtain ⟨A1, c1⟩ := t
  have hp : n ≤ n := hp
  refine lE [(0, (.slice A n c)), (1, (.int .i64 ((q : Nat) : Int))), (6, (.pointer (some ⟨g5, 0, none⟩)))] ?_
  refine lH [0, 1, 2, 3] [.obj D (.deferred (some [])), .row (.slice A1 (32 * n) c1) 5 1 (32 * n) ((pkl (xs.take n)).map b8), .blk g5 27 [(.slice A1 (32 * n) c1)], .rd A 4 n c (rcs xs)] ?_
  refine T_seq ?_
  refine lT ?_
  refine lM ?_
  refine lM ?_
  refine lO (pr_len_sl Tryz.underlying26 rfl rfl) ?_
  refine lO (pr_sub (ns_i64 (a := q) (b := n) sd sd) rfl rfl rfl) ?_
  refine lM ?_
  refine L_nil ?_
  refine T_block ?_
  refine T_as 1 _ (.row (.slice A1 (32 * (n + 0)) c1) 5 1 (32 * (n + 0)) ((pkl (xs ++ List.replicate 0 rdead)).map b8)) rfl (by rw [List.take_of_length_le oM]; simp) ?_
  refine T_as 2 _ (.blk g5 27 [(.slice A1 (32 * (n + 0)) c1)]) rfl (by simp) ?_
  refine T_loop (T := Nat × Option Addr × Nat) (fun ⟨j, A2, c2⟩ => j ≤ q - n) (fun ⟨j, A2, c2⟩ => [(6, (.pointer (some ⟨g5, 0, none⟩))), (30, (.int .i64 ((q - n : Nat) : Int))), (31, (.int .i64 ((j : Nat) : Int)))]) (fun ⟨j, A2, c2⟩ => [.obj D (.deferred (some [])), .row (.slice A2 (32 * (n + j)) c2) 5 1 (32 * (n + j)) ((pkl (xs ++ List.replicate j rdead)).map b8), .blk g5 27 [(.slice A2 (32 * (n + j)) c2)], .rd A 4 n c (rcs xs)]) (fun ⟨j, A2, c2⟩ => q - n - j) (0, A1, c1) pN (sc rfl (sc rfl (sc rfl sn))) [2, 1, 0, 3] ⟨by decide, rfl⟩ ?_
  rintro ⟨j, A2, c2⟩ hp
  have hp : j ≤ q - n := hp
  refine lE [(6, (.pointer (some ⟨g5, 0, none⟩))), (30, (.int .i64 ((q - n : Nat) : Int))), (31, (.int .i64 ((j : Nat) : Int)))] ?_
  refine lH [0, 1, 2, 3] [.obj D (.deferred (some [])), .row (.slice A2 (32 * (n + j)) c2) 5 1 (32 * (n + j)) ((pkl (xs ++ List.replicate j rdead)).map b8), .blk g5 27 [(.slice A2 (32 * (n + j)) c2)], .rd A 4 n c (rcs xs)] ?_
  refine lT ?_
  refine lO (pr_cmp (bo := .lss) (nc_lt (a := j) (b := q - n)) rfl rfl rfl rfl) ?_
  refine L_nil ?_
  refine T_seq ?_
  refine T_cond (decide (j < q - n)) rfl (fun hc_15 => ?_) (fun hc_15 => ?_)
  ·have hc_15 := of_decide_eq_true hc_15
   refine T_skip ?_
   refine T_seq ?_
   refine T_block ?_
   refine lT ?_
   refine L_op rfl (op_cn (fun w hw => dead_f  w (hok_nil w) ) (enters_of Tryz.func32 kr rfl) rfl rfl rfl rfl rfl (fun t16 q17 => ?_))
   refine L_op rfl (op_cn (fun w hw => rpack_f true (0#64) (0#64) (0#64) w (hok_nil w) ) (enters_of Tryz.func31 kr rfl) rfl rfl rfl rfl rfl (fun t18 q19 => ?_))
   refine L_op rfl (op_alloc (z := .agg ((List.replicate 32 0#8).map b8).toArray) (zs := ((List.replicate 32 0#8).map b8)) kr rfl rfl rfl rfl (fun g20 => ?_))
   refine L_op rfl (op_sto (n := 32) (vs := ((rpk (Rc.mk true (0#64) (0#64) (0#64))).map b8)) 0 rfl rfl kr (all8_one _) kr sd rfl rfl rfl rfl ?_)
   refine L_nil ?_
   refine T_regD [.blk g20 22 ((rpk (Rc.mk true (0#64) (0#64) (0#64))).map b8), .obj D (.deferred (some [])), .row (.slice A2 (32 * (n + j)) c2) 5 1 (32 * (n + j)) ((pkl (xs ++ List.replicate j rdead)).map b8), .blk g5 27 [(.slice A2 (32 * (n + j)) c2)], .rd A 4 n c (rcs xs)] 2 4 #[false, false, false, false] hF kr kr ?_
   refine D_pure (i := 1) [0, 1, 2, 3, 4] rfl kr rfl (pr_sla (l := 0) (u := 32) (m := 0) sd sd sd rfl Tryz.underlying22 (z := 1) kr rfl rfl rfl rfl) (.inr rfl) rfl rfl ?_
   refine D_take (i := 0) [0, 1, 2, 3, 4] rfl kr rfl (ld_blk 3 rfl rfl Tryz.underlying27 rfl rfl rfl) rfl rfl rfl ?_
   refine D_one 2 _ rfl kr rfl (op_append (z := (b8 (0#8))) (size := 1) (bytes := 1) 2 rfl Tryz.underlying27 kr kr (by decide) (src_full (z := 1) 0 rfl sd sd sd) (all8_one _) sd sd rfl rfl rfl rfl rfl (fun A21 C22 => ?_))
   refine T_as 0 _ (.row (.slice A21 (32 * (n + j) + 32) C22) 5 1 (32 * (n + j) + 32) (((pkl (xs ++ List.replicate j rdead)) ++ (rpk (Rc.mk true (0#64) (0#64) (0#64)))).map b8)) rfl (by congr 1; simp; done) ?_
   refine D_past kr ?_
   refine D_one 3 _ rfl kr rfl (op_store (vs := [(.slice A21 (32 * (n + j) + 32) C22)]) (cs' := [(.slice A21 (32 * (n + j) + 32) C22)]) 3 rfl rfl kr (one_one rfl) (by simp) rfl rfl rfl rfl rfl ?_)
   refine D_past kr ?_
   refine D_done kr ?_
   refine lR ?_
   refine lO (pr_add (na_i64 (a := j) (b := 1) sd) rfl rfl rfl) ?_
   refine lM ?_
   refine L_nil ?_
   refine T_as 1 _ (.row (.slice A21 (32 * (n + (j + 1))) C22) 5 1 (32 * (n + (j + 1))) ((pkl (xs ++ List.replicate (j + 1) rdead)).map b8)) rfl (by rw [pkl_rep]; rfl) ?_
   refine T_as 1 _ (.blk g5 27 [(.slice A21 (32 * (n + (j + 1))) C22)]) rfl (by congr 1) ?_
   exact T_again (j + 1, A21, C22) pN pN (sc rfl (sc rfl (sc rfl sn))) [3, 1, 0, 4] ⟨by decide, rfl⟩
  have hc_15 := of_decide_eq_false hc_15
  refine T_exit rfl ?_
  obtain rfl : q - n = j := by omega
  refine lT ?_
  refine lQ (ld_blk 2 rfl rfl Tryz.underlying27 rfl rfl rfl) ?_
  refine lS ?_
  refine lS ?_
  refine L_nil ?_
  refine T_ret ?_
  refine T_slot 4 (.slice A2 (32 * (n + (q - n))) c2) (.slice A2 (bpl n z) c2) rfl (by rw [bpl_ok hq hz1 hz2 aS]) ?_
  refine T_slot 5 (.int .i64 ((0 : Nat) : Int)) (.int .i64 (((bpe n z) : Nat) : Int)) rfl (by rw [bpe_ok hz1 hz2 aS]) ?_
  refine T_as 1 _ (.row (.slice A2 (bpl n z) c2) 5 1 (bpl n z) ((bpb xs z).map b8)) rfl (by rw [bpl_ok hq hz1 hz2 aS, bpb_ok hx hq hz1 hz2 aS]) ?_
  exact T_finM 1 rfl (A2, c2) qN (res2 rfl rfl rfl) [0] ⟨by decide, rfl⟩ rfl
 exact fun D t hq => hq.elim
end Go.Proofs.YtlplpmkdebemnaaGreat
namespace Go.Proofs.YtlplpmkdebemnaaGreat.Fw
open Go.RowKit Bv
theorem T_rangeR {E : Bool} {Θ T Tx : Type} {n : Nat} {P : Program} {N : Nat} {C : List Nat} {w0 : World} {lo : Nat} {rs : Nat → Prop} {ds : List Deferred} {s : List (Nat × Value)} {h : List HA} {nrm ret : Jd} {ex : List (Nat × Jd)} {g : Operand} {ps : List Nat} {assign body : Code} {gf : FuncId} {cap : List Value} {rds : List HA} {nv : Nat} {xs : Nat → Θ → List Value} {hd : Nat → Θ → List HA}
    (hseq : SeqX E P gf cap rds nv xs hd) (hg : ev s g = some (.func (.func gf) #[] cap.toArray)) (hen : Go.Proofs.Enters P gf)
    (p : Nat → T → Prop) (η : Nat → T → List HA) (q : Tx → Prop) (ηx : Tx → List HA) (t0 : T) (h0 : p 0 t0) (is : List Nat) (hi : Pick h is (η 0 t0)) (js : List Nat) (hj : js.map (fun j => (h[j]?).map HA.asrd) = rds.map some) (hjr : js.all (fun j => match h[j]? with | some x => x.asrd.bs.isNone && x.ids.isEmpty | none => false) = true)
    (hηn' : ∀ k t, (η k t).all HA.plainB = true) (hηx' : ∀ t, (ηx t).all HA.plainB = true) (hdr : ∀ k θ, (hd k θ).all rdB = true) (hps : ∀ k θ, (xs k θ).length = ps.length) (hpN : ps.all (fun p => Nat.blt p N) = true)
    (hrs : ∀ r, rs r) (hround : ∀ (C2 : List Nat) (w2 : World) (lo2 : Nat) (rs2 : Nat → Prop) (l D m k : Nat) (t : T) (θ : Θ) (rec : Loop), rec.state = .ready → k < nv → p k t →
      Tr ⟨N, C2, w2, lo2, rs2, []⟩ (slotsOf ps (xs k θ) ++ s) (hd k θ ++ (.obj l (.loop rec) :: .obj D (.deferred (some [])) :: η k t))
        (Wp (Fence.wide.inRound l) m P ⟨Begun l m P ⟨N, C2, w2, lo2, rs2, []⟩ rec ⟨RoundOn l D ⟨N, C2, w2, lo2, rs2, []⟩ rec (p (k + 1)) (η (k + 1)), RoundOn l D ⟨N, C2, w2, lo2, rs2, []⟩ rec q ηx, []⟩ body, fun _ _ => False, []⟩ assign))
    (hdone : ∀ (D : Nat) (t : T), p nv t → Tr ⟨N, C, w0, lo, rs, { target := .collected D, args := #[] } :: ds⟩ s (.obj D (.deferred (some [])) :: η nv t) nrm)
    (hstop : ∀ (D : Nat) (t : Tx), q t → Tr ⟨N, C, w0, lo, rs, { target := .collected D, args := #[] } :: ds⟩ s (.obj D (.deferred (some [])) :: ηx t) (Wp Fence.wide n P ⟨nrm, ret, ex⟩ (.ret)))
    (hE : E = true → ∀ t, ¬ p nv t := by intro h; cases h) :
    Tr ⟨N, C, w0, lo, rs, ds⟩ s h (Wp Fence.wide n P ⟨nrm, ret, ex⟩ (.rangeFunc g ps.toArray assign body)) := fun a w st => by
  refine wpIn_rangeFunc fun fn hfn => ?_
  rw [show Fence.wide.round = none from rfl]
  have hηn : ∀ k t, ∀ x ∈ η k t, x.bs = none := fun k t x hx => plain_bs (List.all_eq_true.1 (hηn' k t) x hx)
  have hηx : ∀ t, ∀ x ∈ ηx t, x.bs = none := fun t x hx => plain_bs (List.all_eq_true.1 (hηx' t) x hx)
  let R0 : LoopState → Option Code → Loop := fun st pe => { state := st, pending := pe, fn, tmps := a.tmps, params := ps.toArray, assign, body, defers := w.heap.size }
  let X1 : Cx := ⟨N, C, w0, lo, rs, []⟩
  let a1 : Act := { tmps := a.tmps, defers := [] }
  have stA : ∀ {h' : List HA} {w' : World}, St ⟨N, C, w0, lo, rs, ds⟩ s h' a w' → St X1 s h' a1 w' := fun st => ⟨st.sz, rfl, st.sl, st.kp, st.ok, st.ll, st.fr, st.nd, st.dj, st.iv, st.ib, st.rk⟩
  let lI := w.heap.size + 1
  let D := w.heap.size
  let W1 := (w.alloc (.deferred (some []))).alloc (.loop (R0 .ready none))
  let hp := fun (r : Loop) (l : List HA) => HA.obj lI (.loop r) :: .obj D (.deferred (some [])) :: l
  have st0 : St X1 s (hp (R0 .ready none) (η 0 t0)) a1 W1 := by
    have h1 := (stA (st.pick hi)).newobj (.deferred (some []))
    have h2 := h1.newobj (.loop (R0 .ready none))
    rw [show (w.alloc (Obj.deferred (some []))).heap.size = lI from World.size_alloc _ _] at h2
    exact h2
  let J : JJ := fun k O R W => ∃ t, p k t ∧ St X1 s (hp (R0 .ready none) (η k t)) a1 W ∧ O = (hp (R0 .ready none) (η k t)).flatMap HA.ids ∧ R = (hp (R0 .ready none) (η k t)).flatMap HA.rids
  let Jx : JX := fun O R W => ∃ t, q t ∧ St X1 s (hp (R0 .done (some (.ret))) (ηx t)) a1 W ∧ O = (hp (R0 .done (some (.ret))) (ηx t)).flatMap HA.ids ∧ R = (hp (R0 .done (some (.ret))) (ηx t)).flatMap HA.rids
  have hpn : ∀ r l, (∀ x ∈ l, x.bs = none) → ∀ x ∈ hp r l, x.bs = none := by
    intro r l hl x hx
    rcases List.mem_cons.1 hx with rfl | hx
    · rfl
    · rcases List.mem_cons.1 hx with rfl | hx
      · rfl
      · exact hl x hx
  have hW1s : w.heap.size ≤ W1.heap.size := by show w.heap.size ≤ ((w.alloc _).alloc _).heap.size; simp; omega
  have hw0 : w0.heap.size ≤ W1.heap.size := Nat.le_trans st.kp.same.size hW1s
  refine ⟨lI, [{ target := .collected D, args := #[] }], W1, { target := .fn (.func gf) cap.toArray, args := #[.func (.yield lI) #[] #[]] }, W1, gf, (.func (.yield lI) #[] #[] :: cap).toArray, W1, ?_, ?_, fun f' _ => trivial, ?_, fun hh => absurd hh (by simp [Fence.wide]), ?_⟩
  · exact run_enterLoop_outer _ _ _ _ _
  · have hev : a.eval (.const (.func (.yield lI) #[] #[])) = .func (.yield lI) #[] #[] := rfl
    simp only [resolve, rangeCall, st.ag g _ hg]
    simp [Deferred.ofValue, hev]
  · have := hen (#[.func (.yield lI) #[] #[]] ++ cap.toArray) W1
    have e : (#[Value.func (.yield lI) #[] #[]] ++ cap.toArray) = (Value.func (.yield lI) #[] #[] :: cap).toArray := by simp
    rw [e] at this
    simp only [invoke]
    rw [e]; exact this
  · have hlow : ∀ {r : Loop} {l : List HA} {W : World}, St X1 s (hp r l) a1 W → ∀ i ∈ (hp r l).flatMap HA.ids ++ (hp r l).flatMap HA.rids, i < W.heap.size := by
      intro r l W hst i hin
      rcases List.mem_append.1 hin with h1 | h1 <;> obtain ⟨x, hx, hxi⟩ := List.mem_flatMap.1 h1
      · exact HA.lt (hst.ok x hx) i (List.mem_append.2 (.inl hxi))
      · exact HA.lt (hst.ok x hx) i (List.mem_append.2 (.inr hxi))
    have hrW : HOK rds W1 := by
      intro x hx
      have : some x ∈ js.map (fun j => (h[j]?).map HA.asrd) := by rw [hj]; exact List.mem_map.2 ⟨x, hx, rfl⟩
      obtain ⟨j, hjm, hje⟩ := List.mem_map.1 this
      obtain ⟨y, hy, rfl⟩ := Option.map_eq_some_iff.1 hje
      have hyh := List.mem_of_getElem? hy
      have hb := List.all_eq_true.1 hjr j hjm
      simp only [hy, Bool.and_eq_true, Option.isNone_iff_eq_none] at hb
      have hyb : y.bs = none := by have := hb.1; cases y <;> first | rfl | (cases this; done)
      refine asrd_ok (HA.ok_keep (st.ok y hyh) ⟨rfl, rfl, rfl, hW1s⟩ (fun i hin => ?_) (fun B hB => by rw [hyb] at hB; cases hB))
      have hlt := HA.lt (st.ok y hyh) i hin
      show ((w.alloc _).alloc _).heap[i]? = _
      rw [Below.heap_alloc _ _ _ (by simp; omega), Below.heap_alloc _ _ _ hlt]
    have hrO : ∀ x ∈ rds, ∀ r ∈ x.rids, r ∉ (hp (R0 .ready none) (η 0 t0)).flatMap HA.ids := by
      intro x hx r hr hin
      have : some x ∈ js.map (fun j => (h[j]?).map HA.asrd) := by rw [hj]; exact List.mem_map.2 ⟨x, hx, rfl⟩
      obtain ⟨j, hjm, hje⟩ := List.mem_map.1 this
      obtain ⟨y, hy, rfl⟩ := Option.map_eq_some_iff.1 hje
      have hyh := List.mem_of_getElem? hy
      rw [asrd_rids] at hr
      have hlt := HA.lt (st.ok y hyh) r (List.mem_append.2 (.inr hr))
      obtain ⟨z, hz, hzr⟩ := List.mem_flatMap.1 hin
      rcases List.mem_cons.1 hz with rfl | hz
      · simp [HA.ids] at hzr; omega
      · rcases List.mem_cons.1 hz with rfl | hz
        · simp [HA.ids] at hzr; omega
        · have hzh : z ∈ h := by
            have : some z ∈ is.map (h[·]?) := by rw [hi.2]; exact List.mem_map.2 ⟨z, hz, rfl⟩
            obtain ⟨i, _, hi'⟩ := List.mem_map.1 this
            exact List.mem_of_getElem? hi'
          exact st.dj y hyh z hzh r hr hzr
    refine (hseq lI J Jx W1 _ _ (n - 1) hrW hrO ?_ ?_ (hlow st0) ?_ (fun hEt O R W ⟨t, ht, _⟩ => hE hEt t ht) ⟨t0, h0, st0, rfl, rfl⟩).mono ?_
    · rintro k O R W W' ⟨t, ht, hst, rfl, rfl⟩ hs hb hin
      exact ⟨t, ht, hst.stab hw0 (hpn _ _ (hηn k t)) hs hb hin, rfl, rfl⟩
    · rintro O R W W' ⟨t, ht, hst, rfl, rfl⟩ hs hb hin
      exact ⟨t, ht, hst.stab hw0 (hpn _ _ (hηx t)) hs hb hin, rfl, rfl⟩
    · rintro k θ O R Wy m hk ⟨t, ht, hst, rfl, rfl⟩ hdk hdO
      have hlw : Wy.heap[lI]? = some (.loop (R0 .ready none)) := hst.ok _ (List.mem_cons_self ..)
      have hy := run_yield (P := P) (args := (xs k θ).toArray) hlw (by show (xs k θ).toArray.size = ps.toArray.size; simp [hps k θ])
      refine ⟨fn, _, assign, body, hy, roundIn_of_wpIn hfn ?_⟩
      have hzip : ((R0 .ready none).params.zip (xs k θ).toArray).foldl (fun tmps (x : Nat × Value) => tmps.setIfInBounds x.1 x.2) (R0 .ready none).tmps = (ps.zip (xs k θ)).foldl (fun (t : Array Value) (q : Nat × Value) => t.setIfInBounds q.1 q.2) a.tmps := by
        show (ps.toArray.zip (xs k θ).toArray).foldl _ a.tmps = _
        rw [List.zip_toArray]
        simp
      let O := (hp (R0 .ready none) (η k t)).flatMap HA.ids
      let R := (hp (R0 .ready none) (η k t)).flatMap HA.rids
      let rs2 : Nat → Prop := fun r => r ∈ O ∨ r ∈ R ∨ r ∈ (hd k θ).flatMap HA.rids
      let X2 : Cx := ⟨N, O, Wy, Wy.heap.size, rs2, []⟩
      have hOC : ∀ i ∈ O, i ∈ C ∨ lo ≤ i := fun i hi => by
        obtain ⟨x, hx, hxi⟩ := List.mem_flatMap.1 hi
        exact hst.fr x hx i (HA.ids_frs hxi)
      have st2 : St X2 s (hp (R0 .ready none) (η k t)) a1 Wy :=
        ⟨hst.sz, rfl, hst.sl, Keep.refl _ _, hst.ok, ⟨Nat.le_refl _, Nat.le_refl _⟩, fun x hx c hc => ?_, hst.nd, hst.dj, hst.iv, fun x hx B hB => (by rw [hpn _ _ (hηn k t) x hx] at hB; cases hB), ⟨fun c hc => .inl hc, fun x hx r hr => .inl (.inr (.inl (List.mem_flatMap.2 ⟨x, hx, hr⟩)))⟩⟩
      case refine_1 =>
        refine .inl (List.mem_flatMap.2 ⟨x, hx, ?_⟩)
        rcases List.mem_cons.1 hx with rfl | hx
        · exact hc
        · rcases List.mem_cons.1 hx with rfl | hx
          · exact hc
          · rwa [plain_frs (List.all_eq_true.1 (hηn' k t) x hx)] at hc
      have stR : St X2 (slotsOf ps (xs k θ) ++ s) (hd k θ ++ hp (R0 .ready none) (η k t)) { tmps := (ps.zip (xs k θ)).foldl (fun (t : Array Value) (q : Nat × Value) => t.setIfInBounds q.1 q.2) a.tmps, defers := [] } Wy := by
        have h1 := st2.addrd (hd k θ) hdk (hdr k θ) (hpn _ _ (hηn k t)) hdO (fun x hx r hr => .inr (.inr (List.mem_flatMap.2 ⟨x, hx, hr⟩)))
        refine ⟨by rw [foldl_size]; exact hst.sz, rfl, slotsOf_spec ps (xs k θ) a.tmps s ?_ hst.sl, h1.kp, h1.ok, h1.ll, h1.fr, h1.nd, h1.dj, h1.iv, h1.ib, h1.rk⟩
        intro p' hp'
        have := List.all_eq_true.1 hpN p' hp'
        have h3 : p' < N := Nat.le_of_ble_eq_true this
        have h4 : a.tmps.size = N := hst.sz
        omega
      have hw := hround O Wy Wy.heap.size rs2 lI D m k t θ (R0 .ready none) rfl hk ht _ _ stR
      have hw2 : assign.wpIn (Fence.wide.inRound lI) m P (Exit.then (fun a₁ w₁ => ∃ w₂, (Instr.beginRound lI).run P w₁ = .ok () w₂ ∧ body.wpIn (Fence.wide.inRound lI) m P (roundPost P lI (YP J Jx k (hd k θ) O R Wy)) a₁ w₂) (fun _ _ _ => False)) { tmps := (ps.zip (xs k θ)).foldl (fun (t : Array Value) (q : Nat × Value) => t.setIfInBounds q.1 q.2) a.tmps, defers := [] } Wy := by
        refine wpIn_mono hw (fun e a2 w2 hq => ?_)
        cases e with
        | ret => exact hq.elim
        | exit i => obtain ⟨_, hj2, _⟩ := hq; cases hj2
        | goto _ => exact hq.elim
        | panic _ => exact hq.elim
        | outgrown => exact hq.elim
        | normal =>
          obtain ⟨w3, hb3, hbody⟩ := hq
          refine ⟨w3, hb3, wpIn_mono hbody (fun e a4 w4 hq4 => ?_)⟩
          have finish : ∀ (l' : List HA) (jump : Option Code) (r'' : Loop), St X2 [] (hp (R0 .busy none) l') a4 w4 → (r'' = { R0 .busy none with state := if jump.isNone then .ready else .done, pending := jump }) → (∀ x ∈ l', x.bs = none) →
              ∃ w', (Instr.endRound lI jump).run P w4 = .ok (.bool jump.isNone) w' ∧ St X1 s (hp r'' l') a1 w' ∧ (∀ i ∈ (hp r'' l').flatMap HA.ids, i ∈ O ∨ Wy.heap.size ≤ i) ∧ (∀ i ∈ (hp r'' l').flatMap HA.rids, i ∈ O ∨ i ∈ R ∨ i ∈ (hd k θ).flatMap HA.rids ∨ Wy.heap.size ≤ i) ∧ Keep O Wy w' := by
            intro l' jump r'' hst4 hr'' hl'
            have hl4 : w4.heap[lI]? = some (.loop (R0 .busy none)) := hst4.ok _ (List.mem_cons_self ..)
            refine ⟨_, run_endRound jump hl4, ?_⟩
            subst hr''
            have h5 := hst4.putobj (.loop { R0 .busy none with state := if jump.isNone then .ready else .done, pending := jump })
            have hid : ∀ x ∈ hp { R0 .busy none with state := if jump.isNone then .ready else .done, pending := jump } l', ∀ c ∈ x.frs, c ∈ O ∨ Wy.heap.size ≤ c := fun x hx c hc => h5.fr x hx c hc
            refine ⟨⟨hst.sz, rfl, hst.sl, hst.kp.trans h5.kp (fun i hi => (hOC i hi).imp id (fun h => Nat.le_trans st.ll.1 h)), h5.ok, ⟨st.ll.1, Nat.le_trans hst.ll.2 h5.kp.same.size⟩, fun x hx c hc => (hid x hx c hc).elim (fun h => hOC c h) (fun h => .inr (Nat.le_trans hst.ll.2 h)), h5.nd, h5.dj, fun x hx q hq => (by rw [os_of_bs (hpn _ _ hl' x hx)] at hq; cases hq), fun x hx B hB => (by rw [hpn _ _ hl' x hx] at hB; cases hB), ⟨hst.rk.1, fun x hx r hr => .inl (hrs r)⟩⟩, ?_, ?_, h5.kp⟩
            · intro i hi
              obtain ⟨x, hx, hxi⟩ := List.mem_flatMap.1 hi
              exact hid x hx i (HA.ids_frs hxi)
            · intro i hi
              obtain ⟨x, hx, hxi⟩ := List.mem_flatMap.1 hi
              rcases h5.rk.2 x hx i hxi with (h6 | h6 | h6) | h6
              · exact .inl h6
              · exact .inr (.inl h6)
              · exact .inr (.inr (.inl h6))
              · exact .inr (.inr (.inr h6))
          cases e with
          | normal =>
            obtain ⟨t', ht', hst4⟩ := hq4
            obtain ⟨w', hr, hst5, h6, h7, h8⟩ := finish _ none (R0 .ready none) hst4 rfl (hηn _ _)
            exact ⟨_, w', hr, _, _, h6, h7, h8, fun i hi => hlow hst5 i hi, .inl ⟨rfl, t', ht', hst5, rfl, rfl⟩⟩
          | ret =>
            obtain ⟨t', ht', hst4⟩ := hq4
            obtain ⟨w', hr, hst5, h6, h7, h8⟩ := finish _ (some .ret) (R0 .done (some .ret)) hst4 rfl (hηx _)
            exact ⟨_, w', hr, _, _, h6, h7, h8, fun i hi => hlow hst5 i hi, .inr ⟨rfl, t', ht', hst5, rfl, rfl⟩⟩
          | exit i => obtain ⟨_, hj2, _⟩ := hq4; cases hj2
          | goto _ => exact hq4.elim
          | panic _ => exact hq4.elim
          | outgrown => exact hq4.elim
      have e2 : (fun (tmps : Array Value) (x : Nat × Value) => match x with | (t, a) => tmps.setIfInBounds t a) = (fun (tmps : Array Value) (x : Nat × Value) => tmps.setIfInBounds x.1 x.2) := rfl
      rw [← hzip] at hw2
      exact hw2
    · rintro e W3 ⟨⟨v, rfl⟩, O', R', hJ⟩
      rcases hJ with ⟨t, ht, hst, -, -⟩ | ⟨t, ht, hst, -, -⟩
      · have hl3 : W3.heap[lI]? = some (.loop (R0 .ready none)) := hst.ok _ (List.mem_cons_self ..)
        have hr := run_endLoop (P := P) hl3 (by simp [R0])
        refine ⟨none, _, hr, ?_⟩
        have h5 := hst.putobj (.loop { R0 .ready none with state := .exhausted })
        have h6 : St X1 s (.obj D (.deferred (some [])) :: η nv t) a1 _ := St.drop (out := [_]) h5
        exact hdone D t ht _ _ ⟨h6.sz, by show _ ++ _ = _; rw [st.df]; rfl, h6.sl, h6.kp, h6.ok, h6.ll, h6.fr, h6.nd, h6.dj, h6.iv, h6.ib, h6.rk⟩
      · have hl3 : W3.heap[lI]? = some (.loop (R0 .done (some (.ret)))) := hst.ok _ (List.mem_cons_self ..)
        have hr := run_endLoop (P := P) hl3 (by simp [R0])
        refine ⟨some (.ret), _, hr, ?_⟩
        have h5 := hst.putobj (.loop { R0 .done (some (.ret)) with state := .exhausted })
        have h6 : St X1 s (.obj D (.deferred (some [])) :: ηx t) a1 _ := St.drop (out := [_]) h5
        exact hstop D t ht _ _ ⟨h6.sz, by show _ ++ _ = _; rw [st.df]; rfl, h6.sl, h6.kp, h6.ok, h6.ll, h6.fr, h6.nd, h6.dj, h6.iv, h6.ib, h6.rk⟩
theorem rescc {P : Program} {s : List (Nat × Value)} {h : List HA} {fn : Func} {p u g g2 : Nat} {ty ty2 e1 e2 : TypeId} {v v2 : Value} {td td2 : TypeDesc} (i j : Nat) (hi : h[i]? = some (.blk g e1 [v])) (hj : h[j]? = some (.blk g2 e2 [v2])) (hr : fn.results = #[.cell p ty, .cell u ty2]) (hp : s.lookup p = some (.pointer (some ⟨g, 0, none⟩))) (hu : s.lookup u = some (.pointer (some ⟨g2, 0, none⟩)))
    (ht : P.underlying ty = some td) (hn : isAggT td = false) (ht2 : P.underlying ty2 = some td2) (hn2 : isAggT td2 = false) : ResV P fn s h (.tuple #[v, v2]) := fun tmps hs w hw => by
  have hb : w.heap[g]? = some (.cells #[v] e1 (0, 0)) := hw _ (List.mem_of_getElem? hi)
  have hb2 : w.heap[g2]? = some (.cells #[v2] e2 (0, 0)) := hw _ (List.mem_of_getElem? hj)
  have h1 : tmps[p]?.getD undef = .pointer (some ⟨g, 0, none⟩) := by simp [hs p _ hp]
  have h2 : tmps[u]?.getD undef = .pointer (some ⟨g2, 0, none⟩) := by simp [hs u _ hu]
  have l1 : (loadVar ty ⟨g, 0, none⟩).run P w = .ok v w := by
    have hagg : (isAgg ty).run P w = .ok false w := by unfold isAgg; rw [Sem.run_bind, run_underlying ht w]; cases td <;> simp_all [isAggT]
    simp only [loadVar, Sem.run_bind, hagg, Result.andThen_ok]
    simp [World.cell?, hb]
  have l2 : (loadVar ty2 ⟨g2, 0, none⟩).run P w = .ok v2 w := by
    have hagg : (isAgg ty2).run P w = .ok false w := by unfold isAgg; rw [Sem.run_bind, run_underlying ht2 w]; cases td2 <;> simp_all [isAggT]
    simp only [loadVar, Sem.run_bind, hagg, Result.andThen_ok]
    simp [World.cell?, hb2]
  simp [results, hr, h1, h2, asAddr, l1, l2]
end Go.Proofs.YtlplpmkdebemnaaGreat.Fw
namespace Go.Proofs.YtlplpmkdebemnaaGreat
set_option maxRecDepth 100000
open Go.RowKit Bv Fw
def RBad (w : List (BitVec 64)) : Prop := 1#64 < ath w 0 ∨ (ath w 0 = 1#64 ∧ (ath w 1 ≠ 0#64 ∨ ath w 2 ≠ 0#64 ∨ ath w 3 ≠ 0#64))
instance (w : List (BitVec 64)) : Decidable (RBad w) := by unfold RBad; infer_instance
def rte (b : List (BitVec 8)) : Nat := if b.length < 32 then 3 else if 32 < b.length then 4 else if RBad (wds b 4) then 4 else 0
def rof (w : List (BitVec 64)) : Rc := ⟨ath w 0 == 1#64, ath w 1, ath w 2, ath w 3⟩
def rtk (b : List (BitVec 8)) : Rc := if rte b = 0 then rof (wds b 4) else rc0
theorem rte_short {b : List (BitVec 8)} (h : b.length < 32) : rte b = 3 := by unfold rte; rw [if_pos h]
theorem rte_long {b : List (BitVec 8)} (h : 32 < b.length) : rte b = 4 := by unfold rte; rw [if_neg oM, if_pos h]
theorem rte_bad {b : List (BitVec 8)} (hl : b.length = 32) (h : RBad (wds b 4)) : rte b = 4 := by unfold rte; rw [if_neg oM, if_neg oM, if_pos h]
theorem rte_ok {b : List (BitVec 8)} (hl : b.length = 32) (h : ¬ RBad (wds b 4)) : rte b = 0 := by unfold rte; rw [if_neg oM, if_neg oM, if_neg h]
theorem rtk_no {b : List (BitVec 8)} (h : rte b ≠ 0) : rtk b = rc0 := by unfold rtk; rw [if_neg h]
theorem rtk_ok {b : List (BitVec 8)} (h : rte b = 0) : rtk b = rof (wds b 4) := by unfold rtk; rw [if_pos h]
theorem wds4 (b : List (BitVec 8)) (hb : b.length = 32) : wds b 4 = [low (List.take 8 b) 8, low (List.take 8 (List.drop 8 b)) 8, low (List.take 8 (List.drop 16 b)) 8, low (List.drop 24 b) 8] := by
  have h : List.take 8 (List.drop 24 b) = List.drop 24 b := List.take_of_length_le (by simp; omega)
  simp [wds, h]
theorem i64_z (x : BitVec 64) : (i64 x == ((0 : Nat) : Int)) = (x == 0#64) := by
  rw [Bool.eq_iff_iff, beq_iff_eq, beq_iff_eq]
  unfold i64
  constructor
  · intro h; exact BitVec.toInt_inj.1 (by rw [h]; rfl)
  · rintro rfl; rfl
theorem rb1 {w : List (BitVec 64)} (h : 1#64 < ath w 0) : RBad w := .inl h
theorem rb2 {w : List (BitVec 64)} (h0 : ath w 0 = 1#64) (h : (!(((ath w 0 == 1#64) == true) && ((i64 (ath w 1) == ((0 : Nat) : Int)) && ((i64 (ath w 2) == ((0 : Nat) : Int)) && ((i64 (ath w 3) == ((0 : Nat) : Int)) && true))))) = true) : RBad w := by
  rw [i64_z, i64_z, i64_z, h0] at h
  refine .inr ⟨h0, ?_⟩
  by_cases h1 : ath w 1 = 0#64
  · by_cases h2 : ath w 2 = 0#64
    · by_cases h3 : ath w 3 = 0#64
      · simp [h1, h2, h3] at h
      · exact .inr (.inr h3)
    · exact .inr (.inl h2)
  · exact .inl h1
theorem nb1 {w : List (BitVec 64)} (h1 : ¬ 1#64 < ath w 0) (h0 : ath w 0 = 1#64) (h : (!(((ath w 0 == 1#64) == true) && ((i64 (ath w 1) == ((0 : Nat) : Int)) && ((i64 (ath w 2) == ((0 : Nat) : Int)) && ((i64 (ath w 3) == ((0 : Nat) : Int)) && true))))) = false) : ¬ RBad w := by
  rw [i64_z, i64_z, i64_z, h0] at h
  simp at h
  rintro (q | ⟨_, q | q | q⟩)
  · exact h1 q
  · exact q h.1
  · exact q h.2.1
  · exact q h.2.2
theorem nb2 {w : List (BitVec 64)} (h1 : ¬ 1#64 < ath w 0) (h0 : ¬ ath w 0 = 1#64) : ¬ RBad w := by
  rintro (q | ⟨q, _⟩)
  · exact h1 q
  · exact h0 q
theorem rb3 {w : List (BitVec 64)} (h0 : ath w 0 = 1#64) (h : ¬ ath w 1 = 0#64) : RBad w := .inr ⟨h0, .inl h⟩
theorem rb4 {w : List (BitVec 64)} (h0 : ath w 0 = 1#64) (h : ¬ ath w 2 = 0#64) : RBad w := .inr ⟨h0, .inr (.inl h)⟩
theorem rb5 {w : List (BitVec 64)} (h0 : ath w 0 = 1#64) (h : ¬ ath w 3 = 0#64) : RBad w := .inr ⟨h0, .inr (.inr h)⟩
theorem nb3 {w : List (BitVec 64)} (h1 : ¬ 1#64 < ath w 0) (q1 : ath w 1 = 0#64) (q2 : ath w 2 = 0#64) (q3 : ath w 3 = 0#64) : ¬ RBad w := by
  rintro (q | ⟨_, q | q | q⟩)
  · exact h1 q
  · exact q q1
  · exact q q2
  · exact q q3
set_option maxHeartbeats 4000000 in
theorem rtake_f (b : List (BitVec 8)) (A : Option Addr) (n : Nat) (c : Nat) (w : World) (hO : HOK [.rd A 1 n c (b.map b8)] w) (hb : b.length = n) (hn : n ≤ 1000000) : Calls Tryz.prog 46 [(.slice A n c)].toArray w (Ret (T := Unit) [] w (fun _ => True) (fun _ => (.tuple [(.agg [(.bool ((rtk b).d)), (.int .i64 (i64 (rtk b).k)), (.int .i64 (i64 (rtk b).v)), (.int .i64 (i64 (rtk b).s))].toArray), (.int .i64 (((rte b) : Nat) : Int))].toArray)) (fun _ => [])) := by
 have hF : Wid Fence.wide := wid_wide
 refine enter_m (c := _) Tryz.func46 rfl [] _ [.rd A 1 n c (b.map b8)] (by rw [Tryz.ntmps46]; rfl) (own_rds hO rfl) ?_
 rw [Tryz.ntmps46]
 refine lE [(0, (.slice A n c))] ?_
 refine lH [0] [.rd A 1 n c (b.map b8)] ?_
 refine lT ?_
 refine L_op rfl (op_alloc (z := .agg [(.bool false), (.int .i64 ((0 : Nat) : Int)), (.int .i64 ((0 : Nat) : Int)), (.int .i64 ((0 : Nat) : Int))].toArray) (zs := [(.bool false), (.int .i64 ((0 : Nat) : Int)), (.int .i64 ((0 : Nat) : Int)), (.int .i64 ((0 : Nat) : Int))]) kr rfl rfl rfl rfl (fun g1 => ?_))
 refine lS ?_
 refine L_nil ?_
 refine T_seq ?_
 refine T_block ?_
 refine lT ?_
 refine lM ?_
 refine lO (pr_len_sl Tryz.underlying27 rfl rfl) ?_
 refine lO (pr_cmp (bo := .lss) (nc_lt (a := n) (b := 32)) rfl rfl rfl rfl) ?_
 refine lS ?_
 refine L_nil ?_
 refine T_cond (decide (n < 32)) rfl (fun hc_2 => ?_) (fun hc_2 => ?_)
 ·have hc_2 := of_decide_eq_true hc_2
  refine lT ?_
  refine lO (pr_build (qs := []) (v := .agg [(.bool false), (.int .i64 ((0 : Nat) : Int)), (.int .i64 ((0 : Nat) : Int)), (.int .i64 ((0 : Nat) : Int))].toArray) (fun _ => by kernel_rfl) rfl rfl) ?_
  refine L_op rfl (op_sto (n := 4) (vs := [(.bool false), (.int .i64 ((0 : Nat) : Int)), (.int .i64 ((0 : Nat) : Int)), (.int .i64 ((0 : Nat) : Int))]) 0 rfl rfl kr (by simp [Value.oneCell']) kr kr rfl rfl rfl rfl ?_)
  refine lS ?_
  refine L_nil ?_
  refine T_ret ?_
  refine T_as 0 _ (.blk g1 37 [(.bool ((rtk b).d)), (.int .i64 (i64 (rtk b).k)), (.int .i64 (i64 (rtk b).v)), (.int .i64 (i64 (rtk b).s))]) rfl (by rw [rtk_no (by rw [rte_short oM]; decide)]; rfl) ?_
  refine T_slot 3 (.int .i64 ((3 : Nat) : Int)) (.int .i64 (((rte b) : Nat) : Int)) rfl (by rw [rte_short oM]) ?_
  exact T_finM0 () qN (resct 0 rfl rfl rfl Tryz.underlying37 rfl kr rfl) [] ⟨by decide, rfl⟩ rfl
 have hc_2 := of_decide_eq_false hc_2
 refine lT ?_
 refine lM ?_
 refine lO (pr_len_sl Tryz.underlying27 rfl rfl) ?_
 refine lO (pr_cmp (bo := .gtr) (nc_lt (a := 32) (b := n)) rfl rfl rfl rfl) ?_
 refine lS ?_
 refine L_nil ?_
 refine T_cond (decide (32 < n)) rfl (fun hc_3 => ?_) (fun hc_3 => ?_)
 ·have hc_3 := of_decide_eq_true hc_3
  refine lT ?_
  refine lO (pr_build (qs := []) (v := .agg [(.bool false), (.int .i64 ((0 : Nat) : Int)), (.int .i64 ((0 : Nat) : Int)), (.int .i64 ((0 : Nat) : Int))].toArray) (fun _ => by kernel_rfl) rfl rfl) ?_
  refine L_op rfl (op_sto (n := 4) (vs := [(.bool false), (.int .i64 ((0 : Nat) : Int)), (.int .i64 ((0 : Nat) : Int)), (.int .i64 ((0 : Nat) : Int))]) 0 rfl rfl kr (by simp [Value.oneCell']) kr kr rfl rfl rfl rfl ?_)
  refine lS ?_
  refine L_nil ?_
  refine T_ret ?_
  refine T_as 0 _ (.blk g1 37 [(.bool ((rtk b).d)), (.int .i64 (i64 (rtk b).k)), (.int .i64 (i64 (rtk b).v)), (.int .i64 (i64 (rtk b).s))]) rfl (by rw [rtk_no (by rw [rte_long oM]; decide)]; rfl) ?_
  refine T_slot 3 (.int .i64 ((4 : Nat) : Int)) (.int .i64 (((rte b) : Nat) : Int)) rfl (by rw [rte_long oM]) ?_
  exact T_finM0 () qN (resct 0 rfl rfl rfl Tryz.underlying37 rfl kr rfl) [] ⟨by decide, rfl⟩ rfl
 have hc_3 := of_decide_eq_false hc_3
 refine T_skip ?_
 refine lT ?_
 refine L_op rfl (op_alloc (z := (.slice none 0 0)) (zs := [(.slice none 0 0)]) kr rfl rfl rfl rfl (fun g4 => ?_))
 refine L_nil ?_
 refine T_seq ?_
 refine lT ?_
 refine lM ?_
 refine L_op rfl (op_cn (fun w hw => chunk_f A n c 8 w (hok_nil w) sd) (enters_of Tryz.func45 kr rfl) rfl rfl rfl rfl rfl (fun t5 q6 => ?_))
 obtain ⟨g1_7, g2_8⟩ := t5
 refine L_nil ?_
 refine T_block ?_
 refine T_tord 0 rfl ?_
 refine T_tord 1 rfl ?_
 refine T_nilrow 23 1 ?_
 refine T_as 0 _ (.row (.slice none 0 0) 23 1 0 ((wds b 0).map b64)) rfl (by rfl) ?_
 refine T_range (Θ := Option Addr) (T := Option Addr × Nat) (Tx := Unit) (cap := [(.pointer (some ⟨g1_7, 0, none⟩)), (.pointer (some ⟨g2_8, 0, none⟩))]) (ps := [19]) (chunk_seq b 8 A n c g1_7 g2_8 sd sd sd sd) rfl (enters_of Tryz.func67 kr rfl) (fun k ⟨A1, c1⟩ => k ≤ 4) (fun k ⟨A1, c1⟩ => [.row (.slice A1 k c1) 23 1 k ((wds b k).map b64), .rd (some ⟨g1_7, 0, none⟩) 1 1 1 [(.slice A n c)], .blk g4 77 [(.slice A1 k c1)], .blk g1 37 [(.bool false), (.int .i64 ((0 : Nat) : Int)), (.int .i64 ((0 : Nat) : Int)), (.int .i64 ((0 : Nat) : Int))], .rd A 1 n c (b.map b8)]) (fun _ => False) (fun _ => []) 0 (none, 0) oM [0, 2, 3, 4, 5] ⟨by decide, rfl⟩ [2, 1, 5] rfl rfl (fun _ _ => rfl) (fun _ => rfl) (fun _ _ => rfl) (fun _ _ => rfl) rfl (fun _ => trivial) ?_ ?_ ?_
 ·intro C2 w2 lo2 rs2 l D m k t th rc hrec hk hp
  obtain ⟨A1, c1⟩ := t
  obtain ⟨B, rfl⟩ : ∃ x, x = th := ⟨_, rfl⟩
  have hp : k ≤ 4 := hp
  have hk : k < (n + 8 - 1) / 8 := hk
  have hF : Wid (Fence.wide.inRound l) := wid_round l
  refine lE [(4, (.pointer (some ⟨g4, 0, none⟩))), (19, (.slice B (min 8 (n - 8 * k)) (min 8 (n - 8 * k))))] ?_
  refine lH [0, 1, 2, 3, 4, 5, 6, 7] [.rd B 1 (min 8 (n - 8 * k)) (min 8 (n - 8 * k)) ((List.take (min 8 (n - 8 * k)) (List.drop (8 * k) b)).map b8), .obj l (.loop rc), .obj D (.deferred (some [])), .row (.slice A1 k c1) 23 1 k ((wds b k).map b64), .rd (some ⟨g1_7, 0, none⟩) 1 1 1 [(.slice A n c)], .blk g4 77 [(.slice A1 k c1)], .blk g1 37 [(.bool false), (.int .i64 ((0 : Nat) : Int)), (.int .i64 ((0 : Nat) : Int)), (.int .i64 ((0 : Nat) : Int))], .rd A 1 n c (b.map b8)] ?_
  refine lR ?_
  refine lS ?_
  refine L_nil ?_
  refine T_begun 1 rfl hrec ?_
  refine T_block ?_
  refine T_regD [.obj l (.loop { rc with state := .busy }), .rd B 1 (min 8 (n - 8 * k)) (min 8 (n - 8 * k)) ((List.take (min 8 (n - 8 * k)) (List.drop (8 * k) b)).map b8), .obj D (.deferred (some [])), .row (.slice A1 k c1) 23 1 k ((wds b k).map b64), .rd (some ⟨g1_7, 0, none⟩) 1 1 1 [(.slice A n c)], .blk g4 77 [(.slice A1 k c1)], .blk g1 37 [(.bool false), (.int .i64 ((0 : Nat) : Int)), (.int .i64 ((0 : Nat) : Int)), (.int .i64 ((0 : Nat) : Int))], .rd A 1 n c (b.map b8)] 4 6 #[false, false, false, false, false, false] hF kr kr ?_
  refine D_pure (i := 1) [0, 1, 2, 3, 4, 5, 6, 7] rfl kr rfl (pr_move rfl rfl) (.inr rfl) rfl rfl ?_
  refine D_take (i := 0) [0, 1, 2, 3, 4, 5, 6, 7] rfl kr rfl (ld_blk 5 rfl rfl Tryz.underlying77 rfl rfl rfl) rfl rfl rfl ?_
  refine D_one 2 _ rfl kr rfl (op_cn (fun w hw => low_f (List.take (min 8 (n - 8 * k)) (List.drop (8 * k) b)) 8 B (min 8 (n - 8 * k)) (min 8 (n - 8 * k)) w (hok_cons ((src_rd 1 rfl) w hw) (hok_nil w)) sd sd sd) (enters_of Tryz.func68 kr rfl) rfl rfl rfl rfl rfl (fun t9 q10 => ?_))
  refine D_on [0, 1, 2, 3, 4, 5, 6, 7] rfl ?_
  refine D_one 3 _ rfl kr rfl (op_bslice (e := 23) (zs := [(b64 (low (List.take (min 8 (n - 8 * k)) (List.drop (8 * k) b)) 8))]) (qs := [(0, (b64 (low (List.take (min 8 (n - 8 * k)) (List.drop (8 * k) b)) 8)))]) (fun _ => by kernel_rfl) rfl rfl rfl rfl (fun g11 => ?_))
  refine D_on [1, 2, 3, 4, 5, 6, 7, 8] rfl ?_
  refine D_one 4 _ rfl kr rfl (op_append (z := (b64 (0#64))) (size := 1) (bytes := 8) 4 rfl Tryz.underlying77 kr kr (by decide) (src_full (z := 1) 0 rfl rfl sd sd) (by simp [Value.oneCell']) sd sd rfl rfl rfl rfl rfl (fun A12 C13 => ?_))
  refine T_as 0 _ (.row (.slice A12 (k + 1) C13) 23 1 (k + 1) (((wds b k) ++ [(low (List.take (min 8 (n - 8 * k)) (List.drop (8 * k) b)) 8)]).map b64)) rfl (by congr 1; simp; done) ?_
  refine D_past kr ?_
  refine D_one 5 _ rfl kr rfl (op_store (vs := [(.slice A12 (k + 1) C13)]) (cs' := [(.slice A12 (k + 1) C13)]) 6 rfl rfl kr (one_one rfl) (by simp) rfl rfl rfl rfl rfl ?_)
  refine D_past kr ?_
  refine D_done kr ?_
  refine T_as 1 _ (.row (.slice A12 (k + 1) C13) 23 1 (k + 1) ((wds b (k + 1)).map b64)) rfl (by rw [wds, show min 8 (n - 8 * k) = 8 from by omega]) ?_
  exact T_on (A12, C13) (by dsimp only; omega) [3, 5, 0, 6, 1, 7, 8] ⟨by decide, rfl⟩
 ·intro D t hp
  obtain ⟨A1, c1⟩ := t
  have hp : ((n + 8 - 1) / 8) ≤ 4 := hp
  have hn4 : (n + 8 - 1) / 8 = 4 := by omega
  have hwl := wds_len b 4
  refine lE [(2, (.pointer (some ⟨g1, 0, none⟩))), (4, (.pointer (some ⟨g4, 0, none⟩)))] ?_
  refine lH [0, 1, 2, 3, 4, 5] [.obj D (.deferred (some [])), .row (.slice A1 ((n + 8 - 1) / 8) c1) 23 1 ((n + 8 - 1) / 8) ((wds b ((n + 8 - 1) / 8)).map b64), .rd (some ⟨g1_7, 0, none⟩) 1 1 1 [(.slice A n c)], .blk g4 77 [(.slice A1 ((n + 8 - 1) / 8) c1)], .blk g1 37 [(.bool false), (.int .i64 ((0 : Nat) : Int)), (.int .i64 ((0 : Nat) : Int)), (.int .i64 ((0 : Nat) : Int))], .rd A 1 n c (b.map b8)] ?_
  refine T_as 1 _ (.row (.slice A1 4 c1) 23 1 4 ((wds b 4).map b64)) rfl (by rw [hn4]) ?_
  refine T_as 3 _ (.blk g4 77 [(.slice A1 4 c1)]) rfl (by rw [hn4]) ?_
  refine T_seq ?_
  refine T_regD [.blk g4 77 [(.slice A1 4 c1)], .row (.slice A1 4 c1) 23 1 4 ((wds b 4).map b64), .obj D (.deferred (some [])), .rd (some ⟨g1_7, 0, none⟩) 1 1 1 [(.slice A n c)], .blk g1 37 [(.bool false), (.int .i64 ((0 : Nat) : Int)), (.int .i64 ((0 : Nat) : Int)), (.int .i64 ((0 : Nat) : Int))], .rd A 1 n c (b.map b8)] 19 19 #[false, false, false, false, false, false, false, false, false, false, false, false, false, false, false, false, false, false, false] hF kr kr ?_
  refine D_take (i := 0) [0, 1, 2, 3, 4, 5] rfl kr rfl (ld_blk 0 rfl rfl Tryz.underlying77 rfl rfl rfl) rfl rfl rfl ?_
  refine D_pure (i := 1) [0, 1, 2, 3, 4, 5] rfl kr rfl (pr_ixs1 (j := 0) (src_none (src_row 1 rfl)) sd Tryz.underlying77 kr rfl rfl rfl) (.inr rfl) rfl rfl ?_
  refine D_take (i := 2) [0, 1, 2, 3, 4, 5] rfl kr rfl (ld_src (m := 0) (src_row 1 rfl) (get64 sd) Tryz.underlying23 rfl rfl rfl) rfl rfl rfl ?_
  refine D_pure (i := 3) [0, 1, 2, 3, 4, 5] rfl kr rfl (pr_cmp (bo := .eql) (n64_beq (ath (wds b 4) 0) (1#64)) rfl rfl rfl rfl) (.inr rfl) rfl rfl ?_
  refine D_take (i := 4) [0, 1, 2, 3, 4, 5] rfl kr rfl (ld_blk 0 rfl rfl Tryz.underlying77 rfl rfl rfl) rfl rfl rfl ?_
  refine D_pure (i := 5) [0, 1, 2, 3, 4, 5] rfl kr rfl (pr_ixs1 (j := 1) (src_none (src_row 1 rfl)) sd Tryz.underlying77 kr rfl rfl rfl) (.inr rfl) rfl rfl ?_
  refine D_take (i := 6) [0, 1, 2, 3, 4, 5] rfl kr rfl (ld_src (m := 1) (src_row 1 rfl) (get64 sd) Tryz.underlying23 rfl rfl rfl) rfl rfl rfl ?_
  refine D_pure (i := 7) [0, 1, 2, 3, 4, 5] rfl kr rfl (pr_cv (zc_u64i (ath (wds b 4) 1)) Tryz.underlying23 Tryz.underlying2 rfl rfl) (.inr rfl) rfl rfl ?_
  refine D_take (i := 8) [0, 1, 2, 3, 4, 5] rfl kr rfl (ld_blk 0 rfl rfl Tryz.underlying77 rfl rfl rfl) rfl rfl rfl ?_
  refine D_pure (i := 9) [0, 1, 2, 3, 4, 5] rfl kr rfl (pr_ixs1 (j := 2) (src_none (src_row 1 rfl)) sd Tryz.underlying77 kr rfl rfl rfl) (.inr rfl) rfl rfl ?_
  refine D_take (i := 10) [0, 1, 2, 3, 4, 5] rfl kr rfl (ld_src (m := 2) (src_row 1 rfl) (get64 sd) Tryz.underlying23 rfl rfl rfl) rfl rfl rfl ?_
  refine D_pure (i := 11) [0, 1, 2, 3, 4, 5] rfl kr rfl (pr_cv (zc_u64i (ath (wds b 4) 2)) Tryz.underlying23 Tryz.underlying2 rfl rfl) (.inr rfl) rfl rfl ?_
  refine D_take (i := 12) [0, 1, 2, 3, 4, 5] rfl kr rfl (ld_blk 0 rfl rfl Tryz.underlying77 rfl rfl rfl) rfl rfl rfl ?_
  refine D_pure (i := 13) [0, 1, 2, 3, 4, 5] rfl kr rfl (pr_ixs1 (j := 3) (src_none (src_row 1 rfl)) sd Tryz.underlying77 kr rfl rfl rfl) (.inr rfl) rfl rfl ?_
  refine D_take (i := 14) [0, 1, 2, 3, 4, 5] rfl kr rfl (ld_src (m := 3) (src_row 1 rfl) (get64 sd) Tryz.underlying23 rfl rfl rfl) rfl rfl rfl ?_
  refine D_pure (i := 15) [0, 1, 2, 3, 4, 5] rfl kr rfl (pr_cv (zc_u64i (ath (wds b 4) 3)) Tryz.underlying23 Tryz.underlying2 rfl rfl) (.inr rfl) rfl rfl ?_
  refine D_pure (i := 16) [0, 1, 2, 3, 4, 5] rfl kr rfl (pr_build (qs := [(0, (.bool ((ath (wds b 4) 0) == 1#64))), (1, (.int .i64 (i64 (ath (wds b 4) 1)))), (2, (.int .i64 (i64 (ath (wds b 4) 2)))), (3, (.int .i64 (i64 (ath (wds b 4) 3))))]) (v := .agg [(.bool ((ath (wds b 4) 0) == 1#64)), (.int .i64 (i64 (ath (wds b 4) 1))), (.int .i64 (i64 (ath (wds b 4) 2))), (.int .i64 (i64 (ath (wds b 4) 3)))].toArray) (fun _ => by kernel_rfl) rfl rfl) (.inr rfl) rfl rfl ?_
  refine D_one 17 _ rfl kr rfl (op_alloc (z := .agg [(.bool false), (.int .i64 ((0 : Nat) : Int)), (.int .i64 ((0 : Nat) : Int)), (.int .i64 ((0 : Nat) : Int))].toArray) (zs := [(.bool false), (.int .i64 ((0 : Nat) : Int)), (.int .i64 ((0 : Nat) : Int)), (.int .i64 ((0 : Nat) : Int))]) kr rfl rfl rfl rfl (fun g14 => ?_))
  refine D_on [1, 2, 3, 4, 5, 6] rfl ?_
  refine D_one 18 _ rfl kr rfl (op_sto (n := 4) (vs := [(.bool ((ath (wds b 4) 0) == 1#64)), (.int .i64 (i64 (ath (wds b 4) 1))), (.int .i64 (i64 (ath (wds b 4) 2))), (.int .i64 (i64 (ath (wds b 4) 3)))]) 0 rfl rfl kr (by simp [Value.oneCell']) kr kr rfl rfl rfl rfl ?_)
  refine D_on [1, 2, 3, 4, 5, 6] rfl ?_
  refine D_done kr ?_
  refine T_seq ?_
  refine T_seq ?_
  refine T_regD [.blk g14 37 [(.bool ((ath (wds b 4) 0) == 1#64)), (.int .i64 (i64 (ath (wds b 4) 1))), (.int .i64 (i64 (ath (wds b 4) 2))), (.int .i64 (i64 (ath (wds b 4) 3)))], .blk g4 77 [(.slice A1 4 c1)], .row (.slice A1 4 c1) 23 1 4 ((wds b 4).map b64), .obj D (.deferred (some [])), .rd (some ⟨g1_7, 0, none⟩) 1 1 1 [(.slice A n c)], .blk g1 37 [(.bool false), (.int .i64 ((0 : Nat) : Int)), (.int .i64 ((0 : Nat) : Int)), (.int .i64 ((0 : Nat) : Int))], .rd A 1 n c (b.map b8)] 13 13 #[false, false, false, false, false, false, false, false, false, false, false, false, false] hF kr kr ?_
  refine D_take (i := 0) [0, 1, 2, 3, 4, 5, 6] rfl kr rfl (ld_blk 1 rfl rfl Tryz.underlying77 rfl rfl rfl) rfl rfl rfl ?_
  refine D_pure (i := 1) [0, 1, 2, 3, 4, 5, 6] rfl kr rfl (pr_ixs1 (j := 0) (src_none (src_row 2 rfl)) sd Tryz.underlying77 kr rfl rfl rfl) (.inr rfl) rfl rfl ?_
  refine D_take (i := 2) [0, 1, 2, 3, 4, 5, 6] rfl kr rfl (ld_src (m := 0) (src_row 2 rfl) (get64 sd) Tryz.underlying23 rfl rfl rfl) rfl rfl rfl ?_
  refine D_pure (i := 3) [0, 1, 2, 3, 4, 5, 6] rfl kr rfl (pr_cmp (bo := .gtr) (cm_lt64 (1#64) (ath (wds b 4) 0)) rfl rfl rfl rfl) (.inr rfl) rfl rfl ?_
  refine D_pure (i := 4) [0, 1, 2, 3, 4, 5, 6] rfl kr rfl (pr_move rfl rfl) (.inr rfl) rfl rfl ?_
  rcases Bool.eq_false_or_eq_true (decide (1#64 < (ath (wds b 4) 0))) with hc_15 | hc_15
  ·refine T_slot 45 (.bool (decide (1#64 < (ath (wds b 4) 0)))) (.bool true) rfl (congrArg _ hc_15) ?_
   refine T_slot 46 (.bool (decide (1#64 < (ath (wds b 4) 0)))) (.bool true) rfl (congrArg _ hc_15) ?_
   have hc_15 := of_decide_eq_true hc_15
   refine D_pass (i := 5) [0, 1, 2, 3, 4, 5, 6] rfl kr rfl (.inr rfl) rfl rfl ?_
   refine D_pass (i := 6) [0, 1, 2, 3, 4, 5, 6] rfl kr rfl (.inr rfl) rfl rfl ?_
   refine D_pass (i := 7) [0, 1, 2, 3, 4, 5, 6] rfl kr rfl (.inr rfl) rfl rfl ?_
   refine D_pass (i := 8) [0, 1, 2, 3, 4, 5, 6] rfl kr rfl (.inr rfl) rfl rfl ?_
   refine D_pass (i := 9) [0, 1, 2, 3, 4, 5, 6] rfl kr rfl (.inr rfl) rfl rfl ?_
   refine D_pass (i := 10) [0, 1, 2, 3, 4, 5, 6] rfl kr rfl (.inr rfl) rfl rfl ?_
   refine D_pass (i := 11) [0, 1, 2, 3, 4, 5, 6] rfl kr rfl (.inr rfl) rfl rfl ?_
   refine D_pure (i := 12) [0, 1, 2, 3, 4, 5, 6] rfl kr rfl (pr_pick_t rfl rfl rfl) (.inr rfl) rfl rfl ?_
   refine D_done kr ?_
   refine T_cond_t rfl ?_
   refine lT ?_
   refine lO (pr_build (qs := []) (v := .agg [(.bool false), (.int .i64 ((0 : Nat) : Int)), (.int .i64 ((0 : Nat) : Int)), (.int .i64 ((0 : Nat) : Int))].toArray) (fun _ => by kernel_rfl) rfl rfl) ?_
   refine L_op rfl (op_sto (n := 4) (vs := [(.bool false), (.int .i64 ((0 : Nat) : Int)), (.int .i64 ((0 : Nat) : Int)), (.int .i64 ((0 : Nat) : Int))]) 5 rfl rfl kr (by simp [Value.oneCell']) kr kr rfl rfl rfl rfl ?_)
   refine lS ?_
   refine L_nil ?_
   refine T_ret ?_
   refine T_as 0 _ (.blk g1 37 [(.bool ((rtk b).d)), (.int .i64 (i64 (rtk b).k)), (.int .i64 (i64 (rtk b).v)), (.int .i64 (i64 (rtk b).s))]) rfl (by rw [rtk_no (by rw [rte_bad oM (rb1 aS)]; decide)]; rfl) ?_
   refine T_slot 3 (.int .i64 ((4 : Nat) : Int)) (.int .i64 (((rte b) : Nat) : Int)) rfl (by rw [rte_bad oM (rb1 aS)]) ?_
   exact T_finM 4 rfl () qN (resct 0 rfl rfl rfl Tryz.underlying37 rfl kr rfl) [] ⟨by decide, rfl⟩ rfl
  refine T_slot 45 (.bool (decide (1#64 < (ath (wds b 4) 0)))) (.bool false) rfl (congrArg _ hc_15) ?_
  refine T_slot 46 (.bool (decide (1#64 < (ath (wds b 4) 0)))) (.bool false) rfl (congrArg _ hc_15) ?_
  have hc_15 := of_decide_eq_false hc_15
  refine D_pure (i := 5) [0, 1, 2, 3, 4, 5, 6] rfl kr rfl (pr_fa (m := 0) (m' := 0) (z := 0) (by rfl) Tryz.underlying37 rfl kr rfl rfl) (.inr rfl) rfl rfl ?_
  refine D_take (i := 6) [0, 1, 2, 3, 4, 5, 6] rfl kr rfl (ld_blk 0 rfl rfl Tryz.underlying4 rfl rfl rfl) rfl rfl rfl ?_
  refine D_pure (i := 7) [0, 1, 2, 3, 4, 5, 6] rfl kr rfl (pr_move rfl rfl) (.inr rfl) rfl rfl ?_
  rcases Bool.eq_false_or_eq_true ((ath (wds b 4) 0) == 1#64) with hc_16 | hc_16
  ·refine T_slot 48 (.bool ((ath (wds b 4) 0) == 1#64)) (.bool true) rfl (congrArg _ hc_16) ?_
   refine T_slot 49 (.bool ((ath (wds b 4) 0) == 1#64)) (.bool true) rfl (congrArg _ hc_16) ?_
   have hc_16 : (ath (wds b 4) 0) = 1#64 := by simpa using hc_16
   refine D_take (i := 8) [0, 1, 2, 3, 4, 5, 6] rfl kr rfl (ld_agg (ds := [(.bool ((ath (wds b 4) 0) == 1#64)), (.int .i64 (i64 (ath (wds b 4) 1))), (.int .i64 (i64 (ath (wds b 4) 2))), (.int .i64 (i64 (ath (wds b 4) 3)))]) 0 rfl agg_all Tryz.underlying37 rfl kr rfl rfl) rfl rfl rfl ?_
   refine D_one 9 _ rfl kr rfl (op_cn (fun w hw => dead_f  w (hok_nil w) ) (enters_of Tryz.func32 kr rfl) rfl rfl rfl rfl rfl (fun t17 q18 => ?_))
   refine D_on [0, 1, 2, 3, 4, 5, 6] rfl ?_
   refine D_pure (i := 10) [0, 1, 2, 3, 4, 5, 6] rfl kr rfl (pr_eqs (bo := .neq) (c := ((((ath (wds b 4) 0) == 1#64) == true) && (((i64 (ath (wds b 4) 1)) == ((0 : Nat) : Int)) && (((i64 (ath (wds b 4) 2)) == ((0 : Nat) : Int)) && (((i64 (ath (wds b 4) 3)) == ((0 : Nat) : Int)) && true))))) (r := !((((ath (wds b 4) 0) == 1#64) == true) && (((i64 (ath (wds b 4) 1)) == ((0 : Nat) : Int)) && (((i64 (ath (wds b 4) 2)) == ((0 : Nat) : Int)) && (((i64 (ath (wds b 4) 3)) == ((0 : Nat) : Int)) && true))))) (fun _ _ => eqs Tryz.underlying37 kr (eqf rfl (part1 Tryz.underlying4 rfl rfl) (part1 Tryz.underlying4 rfl rfl) (eqv_b Tryz.underlying4) (eqf rfl (part1 Tryz.underlying2 rfl rfl) (part1 Tryz.underlying2 rfl rfl) (eqv_i (a := (i64 (ath (wds b 4) 1))) (b := ((0 : Nat) : Int)) Tryz.underlying2) (eqf rfl (part1 Tryz.underlying2 rfl rfl) (part1 Tryz.underlying2 rfl rfl) (eqv_i (a := (i64 (ath (wds b 4) 2))) (b := ((0 : Nat) : Int)) Tryz.underlying2) (eqf rfl (part1 Tryz.underlying2 rfl rfl) (part1 Tryz.underlying2 rfl rfl) (eqv_i (a := (i64 (ath (wds b 4) 3))) (b := ((0 : Nat) : Int)) Tryz.underlying2) eqf_nil))))) kr rfl rfl rfl rfl rfl) (.inr rfl) rfl rfl ?_
   refine D_pure (i := 11) [0, 1, 2, 3, 4, 5, 6] rfl kr rfl (pr_pick_t rfl rfl rfl) (.inr rfl) rfl rfl ?_
   refine D_pure (i := 12) [0, 1, 2, 3, 4, 5, 6] rfl kr rfl (pr_pick_f rfl rfl rfl) (.inr rfl) rfl rfl ?_
   refine D_done kr ?_
   refine T_cond (!((((ath (wds b 4) 0) == 1#64) == true) && (((i64 (ath (wds b 4) 1)) == ((0 : Nat) : Int)) && (((i64 (ath (wds b 4) 2)) == ((0 : Nat) : Int)) && (((i64 (ath (wds b 4) 3)) == ((0 : Nat) : Int)) && true))))) rfl (fun hc_19 => ?_) (fun hc_19 => ?_)
   ·refine lT ?_
    refine lO (pr_build (qs := []) (v := .agg [(.bool false), (.int .i64 ((0 : Nat) : Int)), (.int .i64 ((0 : Nat) : Int)), (.int .i64 ((0 : Nat) : Int))].toArray) (fun _ => by kernel_rfl) rfl rfl) ?_
    refine L_op rfl (op_sto (n := 4) (vs := [(.bool false), (.int .i64 ((0 : Nat) : Int)), (.int .i64 ((0 : Nat) : Int)), (.int .i64 ((0 : Nat) : Int))]) 5 rfl rfl kr (by simp [Value.oneCell']) kr kr rfl rfl rfl rfl ?_)
    refine lS ?_
    refine L_nil ?_
    refine T_ret ?_
    refine T_as 0 _ (.blk g1 37 [(.bool ((rtk b).d)), (.int .i64 (i64 (rtk b).k)), (.int .i64 (i64 (rtk b).v)), (.int .i64 (i64 (rtk b).s))]) rfl (by rw [rtk_no (by rw [rte_bad oM (rb2 aS aS)]; decide)]; rfl) ?_
    refine T_slot 3 (.int .i64 ((4 : Nat) : Int)) (.int .i64 (((rte b) : Nat) : Int)) rfl (by rw [rte_bad oM (rb2 aS aS)]) ?_
    exact T_finM 4 rfl () qN (resct 0 rfl rfl rfl Tryz.underlying37 rfl kr rfl) [] ⟨by decide, rfl⟩ rfl
   refine T_skip ?_
   refine lT ?_
   refine lQ (ld_agg (ds := [(.bool ((ath (wds b 4) 0) == 1#64)), (.int .i64 (i64 (ath (wds b 4) 1))), (.int .i64 (i64 (ath (wds b 4) 2))), (.int .i64 (i64 (ath (wds b 4) 3)))]) 0 rfl agg_all Tryz.underlying37 rfl kr rfl rfl) ?_
   refine L_op rfl (op_sto (n := 4) (vs := [(.bool ((ath (wds b 4) 0) == 1#64)), (.int .i64 (i64 (ath (wds b 4) 1))), (.int .i64 (i64 (ath (wds b 4) 2))), (.int .i64 (i64 (ath (wds b 4) 3)))]) 5 rfl rfl kr (by simp [Value.oneCell']) kr kr rfl rfl rfl rfl ?_)
   refine lS ?_
   refine L_nil ?_
   refine T_ret ?_
   refine T_as 0 _ (.blk g1 37 [(.bool ((rtk b).d)), (.int .i64 (i64 (rtk b).k)), (.int .i64 (i64 (rtk b).v)), (.int .i64 (i64 (rtk b).s))]) rfl (by rw [rtk_ok (rte_ok oM (nb1 aS aS aS))]; rfl) ?_
   refine T_slot 3 (.int .i64 ((0 : Nat) : Int)) (.int .i64 (((rte b) : Nat) : Int)) rfl (by rw [rte_ok oM (nb1 aS aS aS)]) ?_
   exact T_finM 4 rfl () qN (resct 0 rfl rfl rfl Tryz.underlying37 rfl kr rfl) [] ⟨by decide, rfl⟩ rfl
  refine T_slot 48 (.bool ((ath (wds b 4) 0) == 1#64)) (.bool false) rfl (congrArg _ hc_16) ?_
  refine T_slot 49 (.bool ((ath (wds b 4) 0) == 1#64)) (.bool false) rfl (congrArg _ hc_16) ?_
  have hc_16 : ¬ (ath (wds b 4) 0) = 1#64 := by simpa using hc_16
  refine D_pass (i := 8) [0, 1, 2, 3, 4, 5, 6] rfl kr rfl (.inr rfl) rfl rfl ?_
  refine D_pass (i := 9) [0, 1, 2, 3, 4, 5, 6] rfl kr rfl (.inr rfl) rfl rfl ?_
  refine D_pass (i := 10) [0, 1, 2, 3, 4, 5, 6] rfl kr rfl (.inr rfl) rfl rfl ?_
  refine D_pure (i := 11) [0, 1, 2, 3, 4, 5, 6] rfl kr rfl (pr_pick_f rfl rfl rfl) (.inr rfl) rfl rfl ?_
  refine D_pure (i := 12) [0, 1, 2, 3, 4, 5, 6] rfl kr rfl (pr_pick_f rfl rfl rfl) (.inr rfl) rfl rfl ?_
  refine D_done kr ?_
  refine T_cond_f rfl ?_
  refine T_skip ?_
  refine lT ?_
  refine lQ (ld_agg (ds := [(.bool ((ath (wds b 4) 0) == 1#64)), (.int .i64 (i64 (ath (wds b 4) 1))), (.int .i64 (i64 (ath (wds b 4) 2))), (.int .i64 (i64 (ath (wds b 4) 3)))]) 0 rfl agg_all Tryz.underlying37 rfl kr rfl rfl) ?_
  refine L_op rfl (op_sto (n := 4) (vs := [(.bool ((ath (wds b 4) 0) == 1#64)), (.int .i64 (i64 (ath (wds b 4) 1))), (.int .i64 (i64 (ath (wds b 4) 2))), (.int .i64 (i64 (ath (wds b 4) 3)))]) 5 rfl rfl kr (by simp [Value.oneCell']) kr kr rfl rfl rfl rfl ?_)
  refine lS ?_
  refine L_nil ?_
  refine T_ret ?_
  refine T_as 0 _ (.blk g1 37 [(.bool ((rtk b).d)), (.int .i64 (i64 (rtk b).k)), (.int .i64 (i64 (rtk b).v)), (.int .i64 (i64 (rtk b).s))]) rfl (by rw [rtk_ok (rte_ok oM (nb2 aS aS))]; rfl) ?_
  refine T_slot 3 (.int .i64 ((0 : Nat) : Int)) (.int .i64 (((rte b) : Nat) : Int)) rfl (by rw [rte_ok oM (nb2 aS aS)]) ?_
  exact T_finM 4 rfl () qN (resct 0 rfl rfl rfl Tryz.underlying37 rfl kr rfl) [] ⟨by decide, rfl⟩ rfl
 exact fun D t hq => hq.elim
set_option maxHeartbeats 4000000 in
theorem rrtake_f (b : List (BitVec 8)) (A : Option Addr) (n : Nat) (c : Nat) (w : World) (hO : HOK [.rd A 1 n c (b.map b8)] w) (hb : b.length = n) (hn : n ≤ 1000000) : Calls Tryz.prog 47 [(.slice A n c)].toArray w (Ret (T := Unit) [] w (fun _ => True) (fun _ => (.tuple [(.agg [(.bool ((rtk b).d)), (.int .i64 (i64 (rtk b).k)), (.int .i64 (i64 (rtk b).v)), (.int .i64 (i64 (rtk b).s))].toArray), (.int .i64 (((rte b) : Nat) : Int))].toArray)) (fun _ => [])) := by
 have hF : Wid Fence.wide := wid_wide
 refine enter (c := _) Tryz.func47 rfl [] _ [.rd A 1 n c (b.map b8)] (by rw [Tryz.ntmps47]; rfl) (own_rds hO rfl) ?_
 rw [Tryz.ntmps47]
 refine lE [(0, (.slice A n c))] ?_
 refine lH [0] [.rd A 1 n c (b.map b8)] ?_
 refine lT ?_
 refine L_op rfl (op_alloc (z := .agg [(.bool false), (.int .i64 ((0 : Nat) : Int)), (.int .i64 ((0 : Nat) : Int)), (.int .i64 ((0 : Nat) : Int))].toArray) (zs := [(.bool false), (.int .i64 ((0 : Nat) : Int)), (.int .i64 ((0 : Nat) : Int)), (.int .i64 ((0 : Nat) : Int))]) kr rfl rfl rfl rfl (fun g1 => ?_))
 refine lS ?_
 refine L_nil ?_
 refine T_seq ?_
 refine lT ?_
 refine lM ?_
 refine lO (pr_len_sl Tryz.underlying27 rfl rfl) ?_
 refine lO (pr_cmp (bo := .lss) (nc_lt (a := n) (b := 32)) rfl rfl rfl rfl) ?_
 refine L_nil ?_
 refine T_cond (decide (n < 32)) rfl (fun hc_2 => ?_) (fun hc_2 => ?_)
 ·have hc_2 := of_decide_eq_true hc_2
  refine lT ?_
  refine lO (pr_build (qs := []) (v := .agg [(.bool false), (.int .i64 ((0 : Nat) : Int)), (.int .i64 ((0 : Nat) : Int)), (.int .i64 ((0 : Nat) : Int))].toArray) (fun _ => by kernel_rfl) rfl rfl) ?_
  refine L_op rfl (op_sto (n := 4) (vs := [(.bool false), (.int .i64 ((0 : Nat) : Int)), (.int .i64 ((0 : Nat) : Int)), (.int .i64 ((0 : Nat) : Int))]) 0 rfl rfl kr (by simp [Value.oneCell']) kr kr rfl rfl rfl rfl ?_)
  refine lS ?_
  refine L_nil ?_
  refine T_ret ?_
  refine T_as 0 _ (.blk g1 37 [(.bool ((rtk b).d)), (.int .i64 (i64 (rtk b).k)), (.int .i64 (i64 (rtk b).v)), (.int .i64 (i64 (rtk b).s))]) rfl (by rw [rtk_no (by rw [rte_short oM]; decide)]; rfl) ?_
  refine T_slot 3 (.int .i64 ((3 : Nat) : Int)) (.int .i64 (((rte b) : Nat) : Int)) rfl (by rw [rte_short oM]) ?_
  exact T_fin () qN (resct 0 rfl rfl rfl Tryz.underlying37 rfl kr rfl) [] ⟨by decide, rfl⟩ rfl
 have hc_2 := of_decide_eq_false hc_2
 refine T_skip ?_
 refine T_seq ?_
 refine lT ?_
 refine lM ?_
 refine lO (pr_len_sl Tryz.underlying27 rfl rfl) ?_
 refine lO (pr_cmp (bo := .gtr) (nc_lt (a := 32) (b := n)) rfl rfl rfl rfl) ?_
 refine L_nil ?_
 refine T_cond (decide (32 < n)) rfl (fun hc_3 => ?_) (fun hc_3 => ?_)
 ·have hc_3 := of_decide_eq_true hc_3
  refine lT ?_
  refine lO (pr_build (qs := []) (v := .agg [(.bool false), (.int .i64 ((0 : Nat) : Int)), (.int .i64 ((0 : Nat) : Int)), (.int .i64 ((0 : Nat) : Int))].toArray) (fun _ => by kernel_rfl) rfl rfl) ?_
  refine L_op rfl (op_sto (n := 4) (vs := [(.bool false), (.int .i64 ((0 : Nat) : Int)), (.int .i64 ((0 : Nat) : Int)), (.int .i64 ((0 : Nat) : Int))]) 0 rfl rfl kr (by simp [Value.oneCell']) kr kr rfl rfl rfl rfl ?_)
  refine lS ?_
  refine L_nil ?_
  refine T_ret ?_
  refine T_as 0 _ (.blk g1 37 [(.bool ((rtk b).d)), (.int .i64 (i64 (rtk b).k)), (.int .i64 (i64 (rtk b).v)), (.int .i64 (i64 (rtk b).s))]) rfl (by rw [rtk_no (by rw [rte_long oM]; decide)]; rfl) ?_
  refine T_slot 3 (.int .i64 ((4 : Nat) : Int)) (.int .i64 (((rte b) : Nat) : Int)) rfl (by rw [rte_long oM]) ?_
  exact T_fin () qN (resct 0 rfl rfl rfl Tryz.underlying37 rfl kr rfl) [] ⟨by decide, rfl⟩ rfl
 have hc_3 := of_decide_eq_false hc_3
 refine T_skip ?_
 refine T_seq ?_
 refine T_regD [.blk g1 37 [(.bool false), (.int .i64 ((0 : Nat) : Int)), (.int .i64 ((0 : Nat) : Int)), (.int .i64 ((0 : Nat) : Int))], .rd A 1 n c (b.map b8)] 8 8 #[false, false, false, false, false, false, false, false] hF kr kr ?_
 refine D_pure (i := 0) [0, 1] rfl kr rfl (pr_move rfl rfl) (.inr rfl) rfl rfl ?_
 refine D_pure (i := 3) [0, 1] rfl kr rfl (pr_move rfl rfl) (.inr rfl) rfl rfl ?_
 refine D_join (T := Unit) (fun _ => True) (fun _ => [(0, (.slice A n c)), (2, (.pointer (some ⟨g1, 0, none⟩))), (4, (b64 (ath (wds b 4) 0))), (5, (b64 (ath (wds b 4) 1)))]) (fun _ => [.blk g1 37 [(.bool false), (.int .i64 ((0 : Nat) : Int)), (.int .i64 ((0 : Nat) : Int)), (.int .i64 ((0 : Nat) : Int))], .rd A 1 n c (b.map b8)]) ?_ ?_
 ·refine D_all [1, 4] kr (by simp) ⟨⟨_, rfl, rfl, ?_⟩, ⟨_, rfl, rfl, ?_⟩, trivial⟩
  ·refine id (op_slice_rd (l := 0) (u := 8) 1 rfl sd sd Tryz.underlying27 kr rfl rfl rfl ⟨_, rfl⟩ rfl rfl (fun B10 => ?_))
   refine T_as 0 _ (.rd B10 1 8 c ((List.take 8 b).map b8)) rfl (by congr 1; simp [List.map_take, List.map_drop] <;> omega) ?_
   refine T_slot 17 _ (.slice B10 8 c) rfl (by congr 1) ?_
   refine D_on [1, 2] rfl ?_
   refine D_all [2, 4] kr (by simp) ⟨⟨_, rfl, rfl, ?_⟩, ⟨_, rfl, rfl, ?_⟩, trivial⟩
   ·refine id (op_cn (fun w hw => number_f (List.take 8 b) B10 8 c w (hok_cons ((src_rd 0 rfl) w hw) (hok_nil w)) sd sd) (enters_of Tryz.func69 kr rfl) rfl rfl rfl rfl rfl (fun t11 q12 => ?_))
    refine T_slot 18 (b64 (low (List.take 8 b) 8)) (b64 (ath (wds b 4) 0)) rfl (by rw [wds4 b oM]; rfl) ?_
    refine D_on [1, 2] rfl ?_
    refine D_one 4 _ rfl kr rfl (op_slice_rd (l := 8) (u := 16) 2 rfl sd sd Tryz.underlying27 kr rfl rfl ⟨_, rfl⟩ ⟨_, rfl⟩ rfl rfl (fun B13 => ?_))
    refine T_as 0 _ (.rd B13 1 (16 - 8) (c - 8) ((List.take (16 - 8) (List.drop 8 b)).map b8)) rfl (by congr 1; simp [List.map_take, List.map_drop] <;> omega) ?_
    refine D_on [2, 3] rfl ?_
    refine D_one 5 _ rfl kr rfl (op_cn (fun w hw => number_f (List.take (16 - 8) (List.drop 8 b)) B13 (16 - 8) (c - 8) w (hok_cons ((src_rd 0 rfl) w hw) (hok_nil w)) sd sd) (enters_of Tryz.func69 kr rfl) rfl rfl rfl rfl rfl (fun t14 q15 => ?_))
    refine T_slot 21 (b64 (low (List.take (16 - 8) (List.drop 8 b)) 8)) (b64 (ath (wds b 4) 1)) rfl (by rw [wds4 b oM]; rfl) ?_
    refine D_on [2, 3] rfl ?_
    refine D_pure (i := 6) [2, 3] rfl kr rfl (pr_assign rfl rfl) (.inr rfl) rfl rfl ?_
    refine D_pure (i := 7) [2, 3] rfl kr rfl (pr_assign rfl rfl) (.inr rfl) rfl rfl ?_
    refine D_done kr ?_
    exact T_meet () trivial (sc rfl (sc rfl (sc rfl (sc rfl sn)))) [2, 3] ⟨by decide, rfl⟩
   refine id (op_slice_rd (l := 8) (u := 16) 2 rfl sd sd Tryz.underlying27 kr rfl rfl ⟨_, rfl⟩ ⟨_, rfl⟩ rfl rfl (fun B16 => ?_))
   refine T_as 0 _ (.rd B16 1 (16 - 8) (c - 8) ((List.take (16 - 8) (List.drop 8 b)).map b8)) rfl (by congr 1; simp [List.map_take, List.map_drop] <;> omega) ?_
   refine D_on [2, 3] rfl ?_
   refine D_one 2 _ rfl kr rfl (op_cn (fun w hw => number_f (List.take 8 b) B10 8 c w (hok_cons ((src_rd 1 rfl) w hw) (hok_nil w)) sd sd) (enters_of Tryz.func69 kr rfl) rfl rfl rfl rfl rfl (fun t17 q18 => ?_))
   refine T_slot 18 (b64 (low (List.take 8 b) 8)) (b64 (ath (wds b 4) 0)) rfl (by rw [wds4 b oM]; rfl) ?_
   refine D_on [2, 3] rfl ?_
   refine D_one 5 _ rfl kr rfl (op_cn (fun w hw => number_f (List.take (16 - 8) (List.drop 8 b)) B16 (16 - 8) (c - 8) w (hok_cons ((src_rd 0 rfl) w hw) (hok_nil w)) sd sd) (enters_of Tryz.func69 kr rfl) rfl rfl rfl rfl rfl (fun t19 q20 => ?_))
   refine T_slot 21 (b64 (low (List.take (16 - 8) (List.drop 8 b)) 8)) (b64 (ath (wds b 4) 1)) rfl (by rw [wds4 b oM]; rfl) ?_
   refine D_on [2, 3] rfl ?_
   refine D_pure (i := 6) [2, 3] rfl kr rfl (pr_assign rfl rfl) (.inr rfl) rfl rfl ?_
   refine D_pure (i := 7) [2, 3] rfl kr rfl (pr_assign rfl rfl) (.inr rfl) rfl rfl ?_
   refine D_done kr ?_
   exact T_meet () trivial (sc rfl (sc rfl (sc rfl (sc rfl sn)))) [2, 3] ⟨by decide, rfl⟩
  refine id (op_slice_rd (l := 8) (u := 16) 1 rfl sd sd Tryz.underlying27 kr rfl rfl ⟨_, rfl⟩ ⟨_, rfl⟩ rfl rfl (fun B21 => ?_))
  refine T_as 0 _ (.rd B21 1 (16 - 8) (c - 8) ((List.take (16 - 8) (List.drop 8 b)).map b8)) rfl (by congr 1; simp [List.map_take, List.map_drop] <;> omega) ?_
  refine D_on [1, 2] rfl ?_
  refine D_one 1 _ rfl kr rfl (op_slice_rd (l := 0) (u := 8) 2 rfl sd sd Tryz.underlying27 kr rfl rfl rfl ⟨_, rfl⟩ rfl rfl (fun B22 => ?_))
  refine T_as 0 _ (.rd B22 1 8 c ((List.take 8 b).map b8)) rfl (by congr 1; simp [List.map_take, List.map_drop] <;> omega) ?_
  refine T_slot 17 _ (.slice B22 8 c) rfl (by congr 1) ?_
  refine D_on [2, 3] rfl ?_
  refine D_one 2 _ rfl kr rfl (op_cn (fun w hw => number_f (List.take 8 b) B22 8 c w (hok_cons ((src_rd 0 rfl) w hw) (hok_nil w)) sd sd) (enters_of Tryz.func69 kr rfl) rfl rfl rfl rfl rfl (fun t23 q24 => ?_))
  refine T_slot 18 (b64 (low (List.take 8 b) 8)) (b64 (ath (wds b 4) 0)) rfl (by rw [wds4 b oM]; rfl) ?_
  refine D_on [2, 3] rfl ?_
  refine D_one 5 _ rfl kr rfl (op_cn (fun w hw => number_f (List.take (16 - 8) (List.drop 8 b)) B21 (16 - 8) (c - 8) w (hok_cons ((src_rd 1 rfl) w hw) (hok_nil w)) sd sd) (enters_of Tryz.func69 kr rfl) rfl rfl rfl rfl rfl (fun t25 q26 => ?_))
  refine T_slot 21 (b64 (low (List.take (16 - 8) (List.drop 8 b)) 8)) (b64 (ath (wds b 4) 1)) rfl (by rw [wds4 b oM]; rfl) ?_
  refine D_on [2, 3] rfl ?_
  refine D_pure (i := 6) [2, 3] rfl kr rfl (pr_assign rfl rfl) (.inr rfl) rfl rfl ?_
  refine D_pure (i := 7) [2, 3] rfl kr rfl (pr_assign rfl rfl) (.inr rfl) rfl rfl ?_
  refine D_done kr ?_
  exact T_meet () trivial (sc rfl (sc rfl (sc rfl (sc rfl sn)))) [2, 3] ⟨by decide, rfl⟩
 rintro ⟨⟩ -
 refine lE [(0, (.slice A n c)), (2, (.pointer (some ⟨g1, 0, none⟩))), (4, (b64 (ath (wds b 4) 0))), (5, (b64 (ath (wds b 4) 1)))] ?_
 refine lH [0, 1] [.blk g1 37 [(.bool false), (.int .i64 ((0 : Nat) : Int)), (.int .i64 ((0 : Nat) : Int)), (.int .i64 ((0 : Nat) : Int))], .rd A 1 n c (b.map b8)] ?_
 refine T_seq ?_
 refine T_regD [.blk g1 37 [(.bool false), (.int .i64 ((0 : Nat) : Int)), (.int .i64 ((0 : Nat) : Int)), (.int .i64 ((0 : Nat) : Int))], .rd A 1 n c (b.map b8)] 8 8 #[false, false, false, false, false, false, false, false] hF kr kr ?_
 refine D_pure (i := 0) [0, 1] rfl kr rfl (pr_move rfl rfl) (.inr rfl) rfl rfl ?_
 refine D_pure (i := 3) [0, 1] rfl kr rfl (pr_move rfl rfl) (.inr rfl) rfl rfl ?_
 refine D_join (T := Unit) (fun _ => True) (fun _ => [(2, (.pointer (some ⟨g1, 0, none⟩))), (4, (b64 (ath (wds b 4) 0))), (5, (b64 (ath (wds b 4) 1))), (6, (b64 (ath (wds b 4) 2))), (7, (b64 (ath (wds b 4) 3)))]) (fun _ => [.blk g1 37 [(.bool false), (.int .i64 ((0 : Nat) : Int)), (.int .i64 ((0 : Nat) : Int)), (.int .i64 ((0 : Nat) : Int))], .rd A 1 n c (b.map b8)]) ?_ ?_
 ·refine D_all [1, 4] kr (by simp) ⟨⟨_, rfl, rfl, ?_⟩, ⟨_, rfl, rfl, ?_⟩, trivial⟩
  ·refine id (op_slice_rd (l := 16) (u := 24) 1 rfl sd sd Tryz.underlying27 kr rfl rfl ⟨_, rfl⟩ ⟨_, rfl⟩ rfl rfl (fun B33 => ?_))
   refine T_as 0 _ (.rd B33 1 (24 - 16) (c - 16) ((List.take (24 - 16) (List.drop 16 b)).map b8)) rfl (by congr 1; simp [List.map_take, List.map_drop] <;> omega) ?_
   refine D_on [1, 2] rfl ?_
   refine D_all [2, 4] kr (by simp) ⟨⟨_, rfl, rfl, ?_⟩, ⟨_, rfl, rfl, ?_⟩, trivial⟩
   ·refine id (op_cn (fun w hw => number_f (List.take (24 - 16) (List.drop 16 b)) B33 (24 - 16) (c - 16) w (hok_cons ((src_rd 0 rfl) w hw) (hok_nil w)) sd sd) (enters_of Tryz.func69 kr rfl) rfl rfl rfl rfl rfl (fun t34 q35 => ?_))
    refine T_slot 24 (b64 (low (List.take (24 - 16) (List.drop 16 b)) 8)) (b64 (ath (wds b 4) 2)) rfl (by rw [wds4 b oM]; rfl) ?_
    refine D_on [1, 2] rfl ?_
    refine D_one 4 _ rfl kr rfl (op_slice_rd (l := 24) (u := n) 2 rfl sd sd Tryz.underlying27 kr rfl rfl ⟨_, rfl⟩ rfl rfl rfl (fun B36 => ?_))
    refine T_as 0 _ (.rd B36 1 (n - 24) (c - 24) ((List.drop 24 b).map b8)) rfl (by congr 1; first | rfl | (rw [List.take_of_length_le (by simp; omega)]; simp)) ?_
    refine D_on [2, 3] rfl ?_
    refine D_one 5 _ rfl kr rfl (op_cn (fun w hw => number_f (List.drop 24 b) B36 (n - 24) (c - 24) w (hok_cons ((src_rd 0 rfl) w hw) (hok_nil w)) sd sd) (enters_of Tryz.func69 kr rfl) rfl rfl rfl rfl rfl (fun t37 q38 => ?_))
    refine T_slot 27 (b64 (low (List.drop 24 b) 8)) (b64 (ath (wds b 4) 3)) rfl (by rw [wds4 b oM]; rfl) ?_
    refine D_on [2, 3] rfl ?_
    refine D_pure (i := 6) [2, 3] rfl kr rfl (pr_assign rfl rfl) (.inr rfl) rfl rfl ?_
    refine D_pure (i := 7) [2, 3] rfl kr rfl (pr_assign rfl rfl) (.inr rfl) rfl rfl ?_
    refine D_done kr ?_
    exact T_meet () trivial (sc rfl (sc rfl (sc rfl (sc rfl (sc rfl sn))))) [2, 3] ⟨by decide, rfl⟩
   refine id (op_slice_rd (l := 24) (u := n) 2 rfl sd sd Tryz.underlying27 kr rfl rfl ⟨_, rfl⟩ rfl rfl rfl (fun B39 => ?_))
   refine T_as 0 _ (.rd B39 1 (n - 24) (c - 24) ((List.drop 24 b).map b8)) rfl (by congr 1; first | rfl | (rw [List.take_of_length_le (by simp; omega)]; simp)) ?_
   refine D_on [2, 3] rfl ?_
   refine D_one 2 _ rfl kr rfl (op_cn (fun w hw => number_f (List.take (24 - 16) (List.drop 16 b)) B33 (24 - 16) (c - 16) w (hok_cons ((src_rd 1 rfl) w hw) (hok_nil w)) sd sd) (enters_of Tryz.func69 kr rfl) rfl rfl rfl rfl rfl (fun t40 q41 => ?_))
   refine T_slot 24 (b64 (low (List.take (24 - 16) (List.drop 16 b)) 8)) (b64 (ath (wds b 4) 2)) rfl (by rw [wds4 b oM]; rfl) ?_
   refine D_on [2, 3] rfl ?_
   refine D_one 5 _ rfl kr rfl (op_cn (fun w hw => number_f (List.drop 24 b) B39 (n - 24) (c - 24) w (hok_cons ((src_rd 0 rfl) w hw) (hok_nil w)) sd sd) (enters_of Tryz.func69 kr rfl) rfl rfl rfl rfl rfl (fun t42 q43 => ?_))
   refine T_slot 27 (b64 (low (List.drop 24 b) 8)) (b64 (ath (wds b 4) 3)) rfl (by rw [wds4 b oM]; rfl) ?_
   refine D_on [2, 3] rfl ?_
   refine D_pure (i := 6) [2, 3] rfl kr rfl (pr_assign rfl rfl) (.inr rfl) rfl rfl ?_
   refine D_pure (i := 7) [2, 3] rfl kr rfl (pr_assign rfl rfl) (.inr rfl) rfl rfl ?_
   refine D_done kr ?_
   exact T_meet () trivial (sc rfl (sc rfl (sc rfl (sc rfl (sc rfl sn))))) [2, 3] ⟨by decide, rfl⟩
  refine id (op_slice_rd (l := 24) (u := n) 1 rfl sd sd Tryz.underlying27 kr rfl rfl ⟨_, rfl⟩ rfl rfl rfl (fun B44 => ?_))
  refine T_as 0 _ (.rd B44 1 (n - 24) (c - 24) ((List.drop 24 b).map b8)) rfl (by congr 1; first | rfl | (rw [List.take_of_length_le (by simp; omega)]; simp)) ?_
  refine D_on [1, 2] rfl ?_
  refine D_one 1 _ rfl kr rfl (op_slice_rd (l := 16) (u := 24) 2 rfl sd sd Tryz.underlying27 kr rfl rfl ⟨_, rfl⟩ ⟨_, rfl⟩ rfl rfl (fun B45 => ?_))
  refine T_as 0 _ (.rd B45 1 (24 - 16) (c - 16) ((List.take (24 - 16) (List.drop 16 b)).map b8)) rfl (by congr 1; simp [List.map_take, List.map_drop] <;> omega) ?_
  refine D_on [2, 3] rfl ?_
  refine D_one 2 _ rfl kr rfl (op_cn (fun w hw => number_f (List.take (24 - 16) (List.drop 16 b)) B45 (24 - 16) (c - 16) w (hok_cons ((src_rd 0 rfl) w hw) (hok_nil w)) sd sd) (enters_of Tryz.func69 kr rfl) rfl rfl rfl rfl rfl (fun t46 q47 => ?_))
  refine T_slot 24 (b64 (low (List.take (24 - 16) (List.drop 16 b)) 8)) (b64 (ath (wds b 4) 2)) rfl (by rw [wds4 b oM]; rfl) ?_
  refine D_on [2, 3] rfl ?_
  refine D_one 5 _ rfl kr rfl (op_cn (fun w hw => number_f (List.drop 24 b) B44 (n - 24) (c - 24) w (hok_cons ((src_rd 1 rfl) w hw) (hok_nil w)) sd sd) (enters_of Tryz.func69 kr rfl) rfl rfl rfl rfl rfl (fun t48 q49 => ?_))
  refine T_slot 27 (b64 (low (List.drop 24 b) 8)) (b64 (ath (wds b 4) 3)) rfl (by rw [wds4 b oM]; rfl) ?_
  refine D_on [2, 3] rfl ?_
  refine D_pure (i := 6) [2, 3] rfl kr rfl (pr_assign rfl rfl) (.inr rfl) rfl rfl ?_
  refine D_pure (i := 7) [2, 3] rfl kr rfl (pr_assign rfl rfl) (.inr rfl) rfl rfl ?_
  refine D_done kr ?_
  exact T_meet () trivial (sc rfl (sc rfl (sc rfl (sc rfl (sc rfl sn))))) [2, 3] ⟨by decide, rfl⟩
 rintro ⟨⟩ -
 refine lE [(2, (.pointer (some ⟨g1, 0, none⟩))), (4, (b64 (ath (wds b 4) 0))), (5, (b64 (ath (wds b 4) 1))), (6, (b64 (ath (wds b 4) 2))), (7, (b64 (ath (wds b 4) 3)))] ?_
 refine lH [0, 1] [.blk g1 37 [(.bool false), (.int .i64 ((0 : Nat) : Int)), (.int .i64 ((0 : Nat) : Int)), (.int .i64 ((0 : Nat) : Int))], .rd A 1 n c (b.map b8)] ?_
 refine T_seq ?_
 refine lT ?_
 refine lM ?_
 refine lO (pr_cmp (bo := .gtr) (cm_lt64 (1#64) (ath (wds b 4) 0)) rfl rfl rfl rfl) ?_
 refine lM ?_
 rcases Bool.eq_false_or_eq_true (decide (1#64 < (ath (wds b 4) 0))) with hc_50 | hc_50
 ·refine T_slot 30 (.bool (decide (1#64 < (ath (wds b 4) 0)))) (.bool true) rfl (congrArg _ hc_50) ?_
  refine T_slot 29 (.bool (decide (1#64 < (ath (wds b 4) 0)))) (.bool true) rfl (congrArg _ hc_50) ?_
  have hc_50 := of_decide_eq_true hc_50
  refine L_skip rfl rfl rfl ?_
  refine L_skip rfl rfl rfl ?_
  refine L_skip rfl rfl rfl ?_
  refine L_skip rfl rfl rfl ?_
  refine L_skip rfl rfl rfl ?_
  refine L_skip rfl rfl rfl ?_
  refine L_skip rfl rfl rfl ?_
  refine L_skip rfl rfl rfl ?_
  refine L_skip rfl rfl rfl ?_
  refine L_skip rfl rfl rfl ?_
  refine L_skip rfl rfl rfl ?_
  refine L_skip rfl rfl rfl ?_
  refine L_skip rfl rfl rfl ?_
  refine L_skip rfl rfl rfl ?_
  refine lO (pr_pick_t rfl rfl rfl) ?_
  refine L_nil ?_
  refine T_cond_t rfl ?_
  refine lT ?_
  refine lO (pr_build (qs := []) (v := .agg [(.bool false), (.int .i64 ((0 : Nat) : Int)), (.int .i64 ((0 : Nat) : Int)), (.int .i64 ((0 : Nat) : Int))].toArray) (fun _ => by kernel_rfl) rfl rfl) ?_
  refine L_op rfl (op_sto (n := 4) (vs := [(.bool false), (.int .i64 ((0 : Nat) : Int)), (.int .i64 ((0 : Nat) : Int)), (.int .i64 ((0 : Nat) : Int))]) 0 rfl rfl kr (by simp [Value.oneCell']) kr kr rfl rfl rfl rfl ?_)
  refine lS ?_
  refine L_nil ?_
  refine T_ret ?_
  refine T_as 0 _ (.blk g1 37 [(.bool ((rtk b).d)), (.int .i64 (i64 (rtk b).k)), (.int .i64 (i64 (rtk b).v)), (.int .i64 (i64 (rtk b).s))]) rfl (by rw [rtk_no (by rw [rte_bad oM (rb1 aS)]; decide)]; rfl) ?_
  refine T_slot 3 (.int .i64 ((4 : Nat) : Int)) (.int .i64 (((rte b) : Nat) : Int)) rfl (by rw [rte_bad oM (rb1 aS)]) ?_
  exact T_fin () qN (resct 0 rfl rfl rfl Tryz.underlying37 rfl kr rfl) [] ⟨by decide, rfl⟩ rfl
 refine T_slot 30 (.bool (decide (1#64 < (ath (wds b 4) 0)))) (.bool false) rfl (congrArg _ hc_50) ?_
 refine T_slot 29 (.bool (decide (1#64 < (ath (wds b 4) 0)))) (.bool false) rfl (congrArg _ hc_50) ?_
 have hc_50 := of_decide_eq_false hc_50
 refine lM ?_
 refine lO (pr_cmp (bo := .eql) (n64_beq (ath (wds b 4) 0) (1#64)) rfl rfl rfl rfl) ?_
 refine lM ?_
 rcases Bool.eq_false_or_eq_true ((ath (wds b 4) 0) == 1#64) with hc_51 | hc_51
 ·refine T_slot 33 (.bool ((ath (wds b 4) 0) == 1#64)) (.bool true) rfl (congrArg _ hc_51) ?_
  refine T_slot 32 (.bool ((ath (wds b 4) 0) == 1#64)) (.bool true) rfl (congrArg _ hc_51) ?_
  have hc_51 : (ath (wds b 4) 0) = 1#64 := by simpa using hc_51
  refine lM ?_
  refine lO (pr_cmp (bo := .neq) (n64_bne (ath (wds b 4) 1) (0#64)) rfl rfl rfl rfl) ?_
  refine lM ?_
  rcases Bool.eq_false_or_eq_true ((ath (wds b 4) 1) != 0#64) with hc_52 | hc_52
  ·refine T_slot 36 (.bool ((ath (wds b 4) 1) != 0#64)) (.bool true) rfl (congrArg _ hc_52) ?_
   refine T_slot 35 (.bool ((ath (wds b 4) 1) != 0#64)) (.bool true) rfl (congrArg _ hc_52) ?_
   have hc_52 : ¬ (ath (wds b 4) 1) = 0#64 := by simpa using hc_52
   refine L_skip rfl rfl rfl ?_
   refine L_skip rfl rfl rfl ?_
   refine lO (pr_pick_t rfl rfl rfl) ?_
   refine lM ?_
   refine L_skip rfl rfl rfl ?_
   refine L_skip rfl rfl rfl ?_
   refine lO (pr_pick_t rfl rfl rfl) ?_
   refine lO (pr_pick_t rfl rfl rfl) ?_
   refine lO (pr_pick_f rfl rfl rfl) ?_
   refine L_nil ?_
   refine T_cond_t rfl ?_
   refine lT ?_
   refine lO (pr_build (qs := []) (v := .agg [(.bool false), (.int .i64 ((0 : Nat) : Int)), (.int .i64 ((0 : Nat) : Int)), (.int .i64 ((0 : Nat) : Int))].toArray) (fun _ => by kernel_rfl) rfl rfl) ?_
   refine L_op rfl (op_sto (n := 4) (vs := [(.bool false), (.int .i64 ((0 : Nat) : Int)), (.int .i64 ((0 : Nat) : Int)), (.int .i64 ((0 : Nat) : Int))]) 0 rfl rfl kr (by simp [Value.oneCell']) kr kr rfl rfl rfl rfl ?_)
   refine lS ?_
   refine L_nil ?_
   refine T_ret ?_
   refine T_as 0 _ (.blk g1 37 [(.bool ((rtk b).d)), (.int .i64 (i64 (rtk b).k)), (.int .i64 (i64 (rtk b).v)), (.int .i64 (i64 (rtk b).s))]) rfl (by rw [rtk_no (by rw [rte_bad oM (rb3 aS aS)]; decide)]; rfl) ?_
   refine T_slot 3 (.int .i64 ((4 : Nat) : Int)) (.int .i64 (((rte b) : Nat) : Int)) rfl (by rw [rte_bad oM (rb3 aS aS)]) ?_
   exact T_fin () qN (resct 0 rfl rfl rfl Tryz.underlying37 rfl kr rfl) [] ⟨by decide, rfl⟩ rfl
  refine T_slot 36 (.bool ((ath (wds b 4) 1) != 0#64)) (.bool false) rfl (congrArg _ hc_52) ?_
  refine T_slot 35 (.bool ((ath (wds b 4) 1) != 0#64)) (.bool false) rfl (congrArg _ hc_52) ?_
  have hc_52 : (ath (wds b 4) 1) = 0#64 := by simpa using hc_52
  refine lM ?_
  refine lO (pr_cmp (bo := .neq) (n64_bne (ath (wds b 4) 2) (0#64)) rfl rfl rfl rfl) ?_
  refine lO (pr_pick_f rfl rfl rfl) ?_
  refine lM ?_
  rcases Bool.eq_false_or_eq_true ((ath (wds b 4) 2) != 0#64) with hc_53 | hc_53
  ·refine T_slot 40 (.bool ((ath (wds b 4) 2) != 0#64)) (.bool true) rfl (congrArg _ hc_53) ?_
   refine T_slot 38 (.bool ((ath (wds b 4) 2) != 0#64)) (.bool true) rfl (congrArg _ hc_53) ?_
   refine T_slot 39 (.bool ((ath (wds b 4) 2) != 0#64)) (.bool true) rfl (congrArg _ hc_53) ?_
   have hc_53 : ¬ (ath (wds b 4) 2) = 0#64 := by simpa using hc_53
   refine L_skip rfl rfl rfl ?_
   refine L_skip rfl rfl rfl ?_
   refine lO (pr_pick_t rfl rfl rfl) ?_
   refine lO (pr_pick_t rfl rfl rfl) ?_
   refine lO (pr_pick_f rfl rfl rfl) ?_
   refine L_nil ?_
   refine T_cond_t rfl ?_
   refine lT ?_
   refine lO (pr_build (qs := []) (v := .agg [(.bool false), (.int .i64 ((0 : Nat) : Int)), (.int .i64 ((0 : Nat) : Int)), (.int .i64 ((0 : Nat) : Int))].toArray) (fun _ => by kernel_rfl) rfl rfl) ?_
   refine L_op rfl (op_sto (n := 4) (vs := [(.bool false), (.int .i64 ((0 : Nat) : Int)), (.int .i64 ((0 : Nat) : Int)), (.int .i64 ((0 : Nat) : Int))]) 0 rfl rfl kr (by simp [Value.oneCell']) kr kr rfl rfl rfl rfl ?_)
   refine lS ?_
   refine L_nil ?_
   refine T_ret ?_
   refine T_as 0 _ (.blk g1 37 [(.bool ((rtk b).d)), (.int .i64 (i64 (rtk b).k)), (.int .i64 (i64 (rtk b).v)), (.int .i64 (i64 (rtk b).s))]) rfl (by rw [rtk_no (by rw [rte_bad oM (rb4 aS aS)]; decide)]; rfl) ?_
   refine T_slot 3 (.int .i64 ((4 : Nat) : Int)) (.int .i64 (((rte b) : Nat) : Int)) rfl (by rw [rte_bad oM (rb4 aS aS)]) ?_
   exact T_fin () qN (resct 0 rfl rfl rfl Tryz.underlying37 rfl kr rfl) [] ⟨by decide, rfl⟩ rfl
  refine T_slot 40 (.bool ((ath (wds b 4) 2) != 0#64)) (.bool false) rfl (congrArg _ hc_53) ?_
  refine T_slot 38 (.bool ((ath (wds b 4) 2) != 0#64)) (.bool false) rfl (congrArg _ hc_53) ?_
  refine T_slot 39 (.bool ((ath (wds b 4) 2) != 0#64)) (.bool false) rfl (congrArg _ hc_53) ?_
  have hc_53 : (ath (wds b 4) 2) = 0#64 := by simpa using hc_53
  refine lM ?_
  refine lO (pr_cmp (bo := .neq) (n64_bne (ath (wds b 4) 3) (0#64)) rfl rfl rfl rfl) ?_
  refine lO (pr_pick_f rfl rfl rfl) ?_
  refine lO (pr_pick_t rfl rfl rfl) ?_
  refine lO (pr_pick_f rfl rfl rfl) ?_
  refine L_nil ?_
  refine T_cond ((ath (wds b 4) 3) != 0#64) rfl (fun hc_54 => ?_) (fun hc_54 => ?_)
  ·have hc_54 : ¬ (ath (wds b 4) 3) = 0#64 := by simpa using hc_54
   refine lT ?_
   refine lO (pr_build (qs := []) (v := .agg [(.bool false), (.int .i64 ((0 : Nat) : Int)), (.int .i64 ((0 : Nat) : Int)), (.int .i64 ((0 : Nat) : Int))].toArray) (fun _ => by kernel_rfl) rfl rfl) ?_
   refine L_op rfl (op_sto (n := 4) (vs := [(.bool false), (.int .i64 ((0 : Nat) : Int)), (.int .i64 ((0 : Nat) : Int)), (.int .i64 ((0 : Nat) : Int))]) 0 rfl rfl kr (by simp [Value.oneCell']) kr kr rfl rfl rfl rfl ?_)
   refine lS ?_
   refine L_nil ?_
   refine T_ret ?_
   refine T_as 0 _ (.blk g1 37 [(.bool ((rtk b).d)), (.int .i64 (i64 (rtk b).k)), (.int .i64 (i64 (rtk b).v)), (.int .i64 (i64 (rtk b).s))]) rfl (by rw [rtk_no (by rw [rte_bad oM (rb5 aS aS)]; decide)]; rfl) ?_
   refine T_slot 3 (.int .i64 ((4 : Nat) : Int)) (.int .i64 (((rte b) : Nat) : Int)) rfl (by rw [rte_bad oM (rb5 aS aS)]) ?_
   exact T_fin () qN (resct 0 rfl rfl rfl Tryz.underlying37 rfl kr rfl) [] ⟨by decide, rfl⟩ rfl
  have hc_54 : (ath (wds b 4) 3) = 0#64 := by simpa using hc_54
  refine T_skip ?_
  refine lT ?_
  refine lM ?_
  refine lO (pr_cmp (bo := .eql) (n64_beq (ath (wds b 4) 0) (1#64)) rfl rfl rfl rfl) ?_
  refine lM ?_
  refine lO (pr_cv (zc_u64i (ath (wds b 4) 1)) Tryz.underlying23 Tryz.underlying2 rfl rfl) ?_
  refine lM ?_
  refine lO (pr_cv (zc_u64i (ath (wds b 4) 2)) Tryz.underlying23 Tryz.underlying2 rfl rfl) ?_
  refine lM ?_
  refine lO (pr_cv (zc_u64i (ath (wds b 4) 3)) Tryz.underlying23 Tryz.underlying2 rfl rfl) ?_
  refine lO (pr_build (qs := [(0, (.bool ((ath (wds b 4) 0) == 1#64))), (1, (.int .i64 (i64 (ath (wds b 4) 1)))), (2, (.int .i64 (i64 (ath (wds b 4) 2)))), (3, (.int .i64 (i64 (ath (wds b 4) 3))))]) (v := .agg [(.bool ((ath (wds b 4) 0) == 1#64)), (.int .i64 (i64 (ath (wds b 4) 1))), (.int .i64 (i64 (ath (wds b 4) 2))), (.int .i64 (i64 (ath (wds b 4) 3)))].toArray) (fun _ => by kernel_rfl) rfl rfl) ?_
  refine L_op rfl (op_sto (n := 4) (vs := [(.bool ((ath (wds b 4) 0) == 1#64)), (.int .i64 (i64 (ath (wds b 4) 1))), (.int .i64 (i64 (ath (wds b 4) 2))), (.int .i64 (i64 (ath (wds b 4) 3)))]) 0 rfl rfl kr (by simp [Value.oneCell']) kr kr rfl rfl rfl rfl ?_)
  refine lS ?_
  refine L_nil ?_
  refine T_ret ?_
  refine T_as 0 _ (.blk g1 37 [(.bool ((rtk b).d)), (.int .i64 (i64 (rtk b).k)), (.int .i64 (i64 (rtk b).v)), (.int .i64 (i64 (rtk b).s))]) rfl (by rw [rtk_ok (rte_ok oM (nb3 aS aS aS aS))]; rfl) ?_
  refine T_slot 3 (.int .i64 ((0 : Nat) : Int)) (.int .i64 (((rte b) : Nat) : Int)) rfl (by rw [rte_ok oM (nb3 aS aS aS aS)]) ?_
  exact T_fin () qN (resct 0 rfl rfl rfl Tryz.underlying37 rfl kr rfl) [] ⟨by decide, rfl⟩ rfl
 refine T_slot 33 (.bool ((ath (wds b 4) 0) == 1#64)) (.bool false) rfl (congrArg _ hc_51) ?_
 refine T_slot 32 (.bool ((ath (wds b 4) 0) == 1#64)) (.bool false) rfl (congrArg _ hc_51) ?_
 have hc_51 : ¬ (ath (wds b 4) 0) = 1#64 := by simpa using hc_51
 refine L_skip rfl rfl rfl ?_
 refine L_skip rfl rfl rfl ?_
 refine L_skip rfl rfl rfl ?_
 refine L_skip rfl rfl rfl ?_
 refine L_skip rfl rfl rfl ?_
 refine L_skip rfl rfl rfl ?_
 refine L_skip rfl rfl rfl ?_
 refine L_skip rfl rfl rfl ?_
 refine L_skip rfl rfl rfl ?_
 refine L_skip rfl rfl rfl ?_
 refine lO (pr_pick_f rfl rfl rfl) ?_
 refine lO (pr_pick_f rfl rfl rfl) ?_
 refine L_nil ?_
 refine T_cond_f rfl ?_
 refine T_skip ?_
 refine lT ?_
 refine lM ?_
 refine lO (pr_cmp (bo := .eql) (n64_beq (ath (wds b 4) 0) (1#64)) rfl rfl rfl rfl) ?_
 refine lM ?_
 refine lO (pr_cv (zc_u64i (ath (wds b 4) 1)) Tryz.underlying23 Tryz.underlying2 rfl rfl) ?_
 refine lM ?_
 refine lO (pr_cv (zc_u64i (ath (wds b 4) 2)) Tryz.underlying23 Tryz.underlying2 rfl rfl) ?_
 refine lM ?_
 refine lO (pr_cv (zc_u64i (ath (wds b 4) 3)) Tryz.underlying23 Tryz.underlying2 rfl rfl) ?_
 refine lO (pr_build (qs := [(0, (.bool ((ath (wds b 4) 0) == 1#64))), (1, (.int .i64 (i64 (ath (wds b 4) 1)))), (2, (.int .i64 (i64 (ath (wds b 4) 2)))), (3, (.int .i64 (i64 (ath (wds b 4) 3))))]) (v := .agg [(.bool ((ath (wds b 4) 0) == 1#64)), (.int .i64 (i64 (ath (wds b 4) 1))), (.int .i64 (i64 (ath (wds b 4) 2))), (.int .i64 (i64 (ath (wds b 4) 3)))].toArray) (fun _ => by kernel_rfl) rfl rfl) ?_
 refine L_op rfl (op_sto (n := 4) (vs := [(.bool ((ath (wds b 4) 0) == 1#64)), (.int .i64 (i64 (ath (wds b 4) 1))), (.int .i64 (i64 (ath (wds b 4) 2))), (.int .i64 (i64 (ath (wds b 4) 3)))]) 0 rfl rfl kr (by simp [Value.oneCell']) kr kr rfl rfl rfl rfl ?_)
 refine lS ?_
 refine L_nil ?_
 refine T_ret ?_
 refine T_as 0 _ (.blk g1 37 [(.bool ((rtk b).d)), (.int .i64 (i64 (rtk b).k)), (.int .i64 (i64 (rtk b).v)), (.int .i64 (i64 (rtk b).s))]) rfl (by rw [rtk_ok (rte_ok oM (nb2 aS aS))]; rfl) ?_
 refine T_slot 3 (.int .i64 ((0 : Nat) : Int)) (.int .i64 (((rte b) : Nat) : Int)) rfl (by rw [rte_ok oM (nb2 aS aS)]) ?_
 exact T_fin () qN (resct 0 rfl rfl rfl Tryz.underlying37 rfl kr rfl) [] ⟨by decide, rfl⟩ rfl
end Go.Proofs.YtlplpmkdebemnaaGreat
