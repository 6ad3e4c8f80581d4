/- Blocks packed, by facts. No conditions but lengths. -/
import Derived.Test.YtlplpmkdebemnaaGRec1
import Derived.Test.YtlplpmkdebemnaaProg
import Derived.Test.YtlplpmkdebemnaaFwU
namespace Go.Proofs.Ytlplpmkdebemnaa
set_option linter.unusedVariables false
set_option linter.unusedSimpArgs false
set_option linter.unnecessarySimpa false
set_option maxRecDepth 100000
open Go.RowKit Bv Fw

/-- A record that is none. -/
def rdead : Rc := ⟨true, 0#64, 0#64, 0#64⟩
/-- Records' bytes, one behind the other. -/
def pkl : List Rc → List (BitVec 8)
  | [] => []
  | x :: l => rpk x ++ pkl l
theorem pkl_len : ∀ xs, (pkl xs).length = 32 * xs.length
  | [] => rfl
  | x :: xs => by rw [pkl, List.length_append, rpk_len, pkl_len xs, List.length_cons]; omega
theorem pkl_app (xs ys : List Rc) : pkl (xs ++ ys) = pkl xs ++ pkl ys := by
  induction xs with
  | nil => rfl
  | cons x xs ih => rw [List.cons_append, pkl, pkl, ih, List.append_assoc]
theorem pkl_take (xs : List Rc) (k : Nat) (h : k < xs.length) : pkl (xs.take (k + 1)) = pkl (xs.take k) ++ rpk (rat xs k) := by
  rw [List.take_succ_eq_append_getElem h, pkl_app]
  congr 1
  rw [rat, List.getD_eq_getElem?_getD, List.getElem?_eq_getElem h]
  all_goals exact List.append_nil _
theorem pkl_rep (xs : List Rc) (j : Nat) : pkl (xs ++ List.replicate (j + 1) rdead) = pkl (xs ++ List.replicate j rdead) ++ rpk rdead := by
  rw [List.replicate_succ', ← List.append_assoc, pkl_app]
  congr 1
  all_goals exact List.append_nil _
/-- Why records are no block; how long it is; its bytes. -/
def bpe (n : Nat) (z : Int) : Nat := if z < 1 ∨ 8 < z then 1 else if z < n then 5 else 0
def bpl (n : Nat) (z : Int) : Nat := if bpe n z = 0 then 32 * z.toNat else 0
def bpb (xs : List Rc) (z : Int) : List (BitVec 8) := if bpe xs.length z = 0 then pkl (xs ++ List.replicate (z.toNat - xs.length) rdead) else []
theorem bpe_arg {n : Nat} {z : Int} (h : z < 1 ∨ 8 < z) : bpe n z = 1 := by unfold bpe; rw [if_pos h]
theorem bpe_lim {n : Nat} {z : Int} (h1 : 1 ≤ z) (h2 : z ≤ 8) (h : z < n) : bpe n z = 5 := by unfold bpe; rw [if_neg (by omega), if_pos h]
theorem bpe_ok {n : Nat} {z : Int} (h1 : 1 ≤ z) (h2 : z ≤ 8) (h : ¬ z < n) : bpe n z = 0 := by unfold bpe; rw [if_neg (by omega), if_neg h]
theorem bpl_arg {n : Nat} {z : Int} (h : z < 1 ∨ 8 < z) : bpl n z = 0 := by unfold bpl; rw [bpe_arg h]; rfl
theorem bpl_lim {n : Nat} {z : Int} (h1 : 1 ≤ z) (h2 : z ≤ 8) (h : z < n) : bpl n z = 0 := by unfold bpl; rw [bpe_lim h1 h2 h]; rfl
theorem bpl_ok {n q : Nat} {z : Int} (hq : z = (q : Int)) (h1 : 1 ≤ z) (h2 : z ≤ 8) (h : ¬ z < n) : bpl n z = 32 * (n + (q - n)) := by unfold bpl; rw [if_pos (bpe_ok h1 h2 h)]; omega
theorem bpl_val {n : Nat} {z : Int} (h1 : 1 ≤ z) (h2 : z ≤ 8) (h : ¬ z < n) : ((bpl n z : Nat) : Int) = 32 * z := by unfold bpl; rw [if_pos (bpe_ok h1 h2 h)]; omega
theorem bpb_arg {xs : List Rc} {z : Int} (h : z < 1 ∨ 8 < z) : bpb xs z = [] := by unfold bpb; rw [bpe_arg h]; rfl
theorem bpb_lim {xs : List Rc} {z : Int} (h1 : 1 ≤ z) (h2 : z ≤ 8) (h : z < xs.length) : bpb xs z = [] := by unfold bpb; rw [bpe_lim h1 h2 h]; rfl
theorem bpb_ok {xs : List Rc} {n q : Nat} {z : Int} (hn : xs.length = n) (hq : z = (q : Int)) (h1 : 1 ≤ z) (h2 : z ≤ 8) (h : ¬ z < n) : bpb xs z = pkl (xs ++ List.replicate (q - n) rdead) := by
  subst hn hq
  unfold bpb; rw [if_pos (bpe_ok h1 h2 h)]; rfl
theorem bpb_len {xs : List Rc} {n : Nat} {z : Int} (hn : xs.length = n) : (bpb xs z).length = bpl n z := by
  subst hn
  unfold bpb bpl
  split
  · rename_i h
    have : 1 ≤ z ∧ z ≤ 8 ∧ ¬ z < xs.length := by
      unfold bpe at h
      split at h
      · cases h
      · split at h
        · cases h
        · omega
    rw [pkl_len, List.length_append, List.length_replicate]; omega
  · rfl
/-- May a block be of so many records? -/
def mayb (z : Int) : Bool := decide (1 ≤ z) && decide (z ≤ 8)
theorem mayb_f {z : Int} (h : (!mayb z) = true) : z < 1 ∨ 8 < z := by unfold mayb at h; simp at h; omega
theorem mayb_t {z : Int} (h : (!mayb z) = false) : 1 ≤ z ∧ z ≤ 8 := by unfold mayb at h; simp at h; omega
theorem mayb_1 {z : Int} (h : ¬ ((1 : Nat) : Int) ≤ z) : mayb z = false := by unfold mayb; simp; omega
theorem mayb_2 {z : Int} (h : ((1 : Nat) : Int) ≤ z) : mayb z = decide (z ≤ ((8 : Nat) : Int)) := by unfold mayb; rw [decide_eq_true (show 1 ≤ z from h)]; rfl
/-- How long a sealed block is. -/
def bsz (z : Int) : Int := 32 * max 0 (min z 8) + 16

set_option maxHeartbeats 4000000 in
theorem valsr_seq (xs : List Rc) (A : Option Addr) (n : Nat) (c : Nat) (g1 : Nat) (hx : xs.length = n) (hn : n ≤ 1000000) : SeqC (Θ := Unit) Try.prog 57 [(.pointer (some ⟨g1, 0, none⟩))] [.rd (some ⟨g1, 0, none⟩) 1 1 1 [(.slice A n c)], .rd A 4 n c (rcs xs)] n (fun k _ => [(.agg [(.bool ((rat xs k).d)), (.int .i64 (i64 (rat xs k).k)), (.int .i64 (i64 (rat xs k).v)), (.int .i64 (i64 (rat xs k).s))].toArray)]) (fun k _ => []) := by
 have hF : Wid Fence.wide := wid_wide
 refine enter_seq (c := _) Try.func57 rfl (by rw [Try.ntmps57]; rfl) rfl ?_
 intro l J Jx W O R hsJ hsX hy hend
 rw [Try.ntmps57]
 refine T_re [(0, (.func (.yield l) #[] #[])), (1, (.pointer (some ⟨g1, 0, none⟩)))] (sc rfl (sc rfl sn)) ?_
 refine T_he [0, 1, 2] [.inv W.heap.size O R (J 0 O R), .rd (some ⟨g1, 0, none⟩) 1 1 1 [(.slice A n c)], .rd A 4 n c (rcs xs)] ⟨by decide, rfl⟩ ?_
 refine Tsr hF rfl ?_
 refine lq rfl (ld_rdb (src_rd 1 rfl) rfl Try.underlying27 rfl rfl rfl) rfl rfl ?_
 refine lo rfl (pr_len_sl Try.underlying27 rfl rfl) rfl rfl ?_
 refine lm rfl rfl rfl rfl rfl ?_
 refine L_nil ?_
 refine T_block ?_
 refine T_loop (T := Nat × List Nat × List Nat) (fun ⟨k, O, R⟩ => k ≤ n) (fun ⟨k, O, R⟩ => [(0, (.func (.yield l) #[] #[])), (5, (.slice A n c)), (6, (.int .i64 ((n : Nat) : Int))), (7, (.int .i64 ((k : Nat) : Int)))]) (fun ⟨k, O, R⟩ => [.inv W.heap.size O R (J k O R), .rd (some ⟨g1, 0, none⟩) 1 1 1 [(.slice A n c)], .rd A 4 n c (rcs xs)]) (fun ⟨k, O, R⟩ => n - k) (0, O, R) (by first | trivial | ((try dsimp only); first | omega | (refine ⟨?_, ?_⟩ <;> omega) | (refine ⟨?_, ?_, ?_⟩ <;> omega) | (simp; done) | (simp; omega))) (sc rfl (sc rfl (sc rfl (sc rfl sn)))) [0, 1, 2] ⟨by decide, rfl⟩ ?_
 rintro ⟨k, O, R⟩ hp
 have hp : k ≤ n := hp
 refine T_re [(0, (.func (.yield l) #[] #[])), (5, (.slice A n c)), (6, (.int .i64 ((n : Nat) : Int))), (7, (.int .i64 ((k : Nat) : Int)))] (sc rfl (sc rfl (sc rfl (sc rfl sn)))) ?_
 refine T_he [0, 1, 2] [.inv W.heap.size O R (J k O R), .rd (some ⟨g1, 0, none⟩) 1 1 1 [(.slice A n c)], .rd A 4 n c (rcs xs)] ⟨by decide, rfl⟩ ?_
 refine Tsr hF rfl ?_
 refine lo rfl (pr_cmp (bo := .lss) (nc_lt (a := k) (b := n)) rfl rfl rfl rfl) rfl rfl ?_
 refine L_nil ?_
 refine T_seq ?_
 refine T_cond (decide (k < n)) rfl (fun hc_1 => ?_) (fun hc_1 => ?_)
 ·
  have hc_1 := of_decide_eq_true hc_1
  refine T_skip ?_
  refine T_seq ?_
  refine T_block ?_
  refine Tsr hF rfl ?_
  refine lo rfl (pr_ixs (j := k) (src_none (src_rd 2 rfl)) sd Try.underlying27 (z := 4) kr rfl rfl rfl) rfl rfl ?_
  refine lq rfl (ld_rc (j := k) (src_rd 2 rfl) sd Try.underlying43 rfl kr rfl rfl) rfl rfl ?_
  refine L_op rfl (op_alloc (z := .agg [(.bool false), (.int .i64 ((0 : Nat) : Int)), (.int .i64 ((0 : Nat) : Int)), (.int .i64 ((0 : Nat) : Int))].toArray) (zs := [(.bool false), (.int .i64 ((0 : Nat) : Int)), (.int .i64 ((0 : Nat) : Int)), (.int .i64 ((0 : Nat) : Int))]) kr rfl rfl rfl rfl (fun g2 => ?_))
  refine L_op rfl (op_sto (n := 4) (vs := [(.bool ((rat xs k).d)), (.int .i64 (i64 (rat xs k).k)), (.int .i64 (i64 (rat xs k).v)), (.int .i64 (i64 (rat xs k).s))]) 0 rfl rfl kr (by simp [Value.oneCell']) kr kr rfl rfl rfl rfl ?_)
  refine L_nil ?_
  refine T_seq ?_
  refine T_regI ?_
  refine LI_opP hF rfl rfl (op_pr (pr_move rfl rfl) rfl rfl ?_)
  refine LI_opP hF rfl rfl (op_ld (ld_agg (ds := [(.bool ((rat xs k).d)), (.int .i64 (i64 (rat xs k).k)), (.int .i64 (i64 (rat xs k).v)), (.int .i64 (i64 (rat xs k).s))]) 0 rfl agg_all Try.underlying43 rfl kr rfl rfl) rfl rfl ?_)
  refine LI_op rfl (op_yield (k := k) () hy sd hsJ hsX 1 rfl [] rfl rfl rfl rfl rfl rfl rfl rfl rfl (fun _ => trivial) (fun O3 R4 => ?_) (fun O5 R6 => ?_))
  ·
   refine LI_opP hF rfl rfl (op_pr (pr_un (v := .bool false) rfl rfl rfl) rfl rfl ?_)
   refine LI_nil ?_
   refine T_cond_f rfl ?_
   refine T_skip ?_
   refine T_reg hF rfl ?_
   refine lo rfl (pr_add (na_i64 (a := k) (b := 1) sd) rfl rfl rfl) rfl rfl ?_
   refine lm rfl rfl rfl rfl rfl ?_
   refine L_nil ?_
   exact T_again (k + 1, O3, R4) (by first | trivial | ((try dsimp only); first | omega | (refine ⟨?_, ?_⟩ <;> omega) | (refine ⟨?_, ?_, ?_⟩ <;> omega) | (simp; done) | (simp; omega))) (by first | trivial | ((try dsimp only); first | omega | (refine ⟨?_, ?_⟩ <;> omega) | (refine ⟨?_, ?_, ?_⟩ <;> omega) | (simp; done) | (simp; omega))) (sc rfl (sc rfl (sc rfl (sc rfl sn)))) [0, 2, 3] ⟨by decide, rfl⟩
  ·
   refine LI_opP hF rfl rfl (op_pr (pr_un (v := .bool true) rfl rfl rfl) rfl rfl ?_)
   refine LI_nil ?_
   refine T_cond_t rfl ?_
   refine T_ret ?_
   exact T_finX rfl rfl 0 rfl
 ·
  have hc_1 := of_decide_eq_false hc_1
  refine T_exit rfl ?_
  obtain rfl : k = n := by omega
  exact T_finJ rfl rfl 0 rfl
set_option maxHeartbeats 4000000 in
theorem valsr_f (A : Option Addr) (n : Nat) (c : Nat) (w : World) (hO : HOK [] w)  : Calls Try.prog 34 [(.slice A n c)].toArray w (Ret (T := Nat) [] w (fun g1 => True) (fun g1 => (.func (.func 57) #[] [(.pointer (some ⟨g1, 0, none⟩))].toArray)) (fun g1 => [.old (some ⟨g1, 0, none⟩) 1 1 1 [(.slice A n c)]])) := by
 have hF : Wid Fence.wide := wid_wide
 refine enter (c := _) Try.func34 rfl [] _ [] (by rw [Try.ntmps34]; rfl) (own_rds hO rfl) ?_
 rw [Try.ntmps34]
 refine T_re [(0, (.slice A n c))] (sc rfl sn) ?_
 refine T_he [] [] ⟨by decide, rfl⟩ ?_
 refine Tsr hF rfl ?_
 refine L_op rfl (op_box (zs := [(.slice A n c)]) rfl rfl rfl rfl rfl (fun g1 => ?_))
 refine la rfl rfl rfl rfl rfl ?_
 refine L_nil ?_
 refine Tsr hF rfl ?_
 refine lo rfl (pr_mkfn (us := []) (vs := [(.pointer (some ⟨g1, 0, none⟩))]) rfl rfl rfl) rfl rfl ?_
 refine la rfl rfl rfl rfl rfl ?_
 refine L_nil ?_
 refine T_ret ?_
 refine T_oldb 0 (zs := [(.slice A n c)]) 0 1 1 1 rfl rfl rfl sd sd ?_
 exact T_fin g1 (by first | trivial | omega | (simp; done)) (res1 rfl rfl) [0] ⟨by decide, rfl⟩ rfl
set_option maxHeartbeats 4000000 in
theorem may_f (z : Int) (w : World) (hO : HOK [] w)  : Calls Try.prog 33 [(.int .i64 z)].toArray w (Ret (T := Unit) [] w (fun _ => True) (fun _ => (.bool (mayb z))) (fun _ => [])) := by
 have hF : Wid Fence.wide := wid_wide
 refine enter (c := _) Try.func33 rfl [] _ [] (by rw [Try.ntmps33]; rfl) (own_rds hO rfl) ?_
 rw [Try.ntmps33]
 refine T_re [(0, (.int .i64 z))] (sc rfl sn) ?_
 refine T_he [] [] ⟨by decide, rfl⟩ ?_
 refine Tsr hF rfl ?_
 refine la rfl rfl rfl rfl rfl ?_
 refine L_nil ?_
 refine Tsr hF rfl ?_
 refine lm rfl rfl rfl rfl rfl ?_
 refine lo rfl (pr_cmp (bo := .geq) (k := .i64) (a := z) (b := ((1 : Nat) : Int)) (c := decide (((1 : Nat) : Int) ≤ z)) rfl rfl rfl rfl rfl) rfl rfl ?_
 refine lm rfl rfl rfl rfl rfl ?_
 rcases Bool.eq_false_or_eq_true (decide (((1 : Nat) : Int) ≤ z)) with hc_1 | hc_1
 ·
  refine T_slot 5 (.bool (decide (((1 : Nat) : Int) ≤ z))) (.bool true) rfl (congrArg _ hc_1) ?_
  refine T_slot 4 (.bool (decide (((1 : Nat) : Int) ≤ z))) (.bool true) rfl (congrArg _ hc_1) ?_
  have hc_1 := of_decide_eq_true hc_1
  refine lm rfl rfl rfl rfl rfl ?_
  refine lo rfl (pr_cmp (bo := .leq) (k := .i64) (a := z) (b := ((8 : Nat) : Int)) (c := decide (z ≤ ((8 : Nat) : Int))) rfl rfl rfl rfl rfl) rfl rfl ?_
  refine lo rfl (pr_pick_t rfl rfl rfl) rfl rfl ?_
  refine la rfl rfl rfl rfl rfl ?_
  refine L_nil ?_
  refine T_ret ?_
  refine T_slot 2 (.bool (decide (z ≤ ((8 : Nat) : Int)))) (.bool (mayb z)) rfl (by first | (rw [mayb_1 (by assumption)]) | (rw [mayb_2 (by assumption)])) ?_
  exact T_fin () (by first | trivial | omega | (simp; done)) (res1 rfl rfl) [] ⟨by decide, rfl⟩ rfl
 ·
  refine T_slot 5 (.bool (decide (((1 : Nat) : Int) ≤ z))) (.bool false) rfl (congrArg _ hc_1) ?_
  refine T_slot 4 (.bool (decide (((1 : Nat) : Int) ≤ z))) (.bool false) rfl (congrArg _ hc_1) ?_
  have hc_1 := of_decide_eq_false hc_1
  refine L_skip rfl rfl rfl ?_
  refine L_skip rfl rfl rfl ?_
  refine lo rfl (pr_pick_f rfl rfl rfl) rfl rfl ?_
  refine la rfl rfl rfl rfl rfl ?_
  refine L_nil ?_
  refine T_ret ?_
  refine T_slot 2 (.bool false) (.bool (mayb z)) rfl (by first | (rw [mayb_1 (by assumption)]) | (rw [mayb_2 (by assumption)])) ?_
  exact T_fin () (by first | trivial | omega | (simp; done)) (res1 rfl rfl) [] ⟨by decide, rfl⟩ rfl
set_option maxHeartbeats 4000000 in
theorem rmay_f (z : Int) (w : World) (hO : HOK [] w)  : Calls Try.prog 41 [(.int .i64 z)].toArray w (Ret (T := Unit) [] w (fun _ => True) (fun _ => (.bool (mayb z))) (fun _ => [])) := by
 have hF : Wid Fence.wide := wid_wide
 refine enter (c := _) Try.func41 rfl [] _ [] (by rw [Try.ntmps41]; rfl) (own_rds hO rfl) ?_
 rw [Try.ntmps41]
 refine T_re [(0, (.int .i64 z))] (sc rfl sn) ?_
 refine T_he [] [] ⟨by decide, rfl⟩ ?_
 refine Tsr hF rfl ?_
 refine la rfl rfl rfl rfl rfl ?_
 refine L_nil ?_
 refine Tsr hF rfl ?_
 refine lm rfl rfl rfl rfl rfl ?_
 refine lo rfl (pr_cmp (bo := .geq) (k := .i64) (a := z) (b := ((1 : Nat) : Int)) (c := decide (((1 : Nat) : Int) ≤ z)) rfl rfl rfl rfl rfl) rfl rfl ?_
 refine lm rfl rfl rfl rfl rfl ?_
 rcases Bool.eq_false_or_eq_true (decide (((1 : Nat) : Int) ≤ z)) with hc_1 | hc_1
 ·
  refine T_slot 5 (.bool (decide (((1 : Nat) : Int) ≤ z))) (.bool true) rfl (congrArg _ hc_1) ?_
  refine T_slot 4 (.bool (decide (((1 : Nat) : Int) ≤ z))) (.bool true) rfl (congrArg _ hc_1) ?_
  have hc_1 := of_decide_eq_true hc_1
  refine lm rfl rfl rfl rfl rfl ?_
  refine lo rfl (pr_cmp (bo := .leq) (k := .i64) (a := z) (b := ((8 : Nat) : Int)) (c := decide (z ≤ ((8 : Nat) : Int))) rfl rfl rfl rfl rfl) rfl rfl ?_
  refine lo rfl (pr_pick_t rfl rfl rfl) rfl rfl ?_
  refine la rfl rfl rfl rfl rfl ?_
  refine L_nil ?_
  refine T_ret ?_
  refine T_slot 2 (.bool (decide (z ≤ ((8 : Nat) : Int)))) (.bool (mayb z)) rfl (by first | (rw [mayb_1 (by assumption)]) | (rw [mayb_2 (by assumption)])) ?_
  exact T_fin () (by first | trivial | omega | (simp; done)) (res1 rfl rfl) [] ⟨by decide, rfl⟩ rfl
 ·
  refine T_slot 5 (.bool (decide (((1 : Nat) : Int) ≤ z))) (.bool false) rfl (congrArg _ hc_1) ?_
  refine T_slot 4 (.bool (decide (((1 : Nat) : Int) ≤ z))) (.bool false) rfl (congrArg _ hc_1) ?_
  have hc_1 := of_decide_eq_false hc_1
  refine L_skip rfl rfl rfl ?_
  refine L_skip rfl rfl rfl ?_
  refine lo rfl (pr_pick_f rfl rfl rfl) rfl rfl ?_
  refine la rfl rfl rfl rfl rfl ?_
  refine L_nil ?_
  refine T_ret ?_
  refine T_slot 2 (.bool false) (.bool (mayb z)) rfl (by first | (rw [mayb_1 (by assumption)]) | (rw [mayb_2 (by assumption)])) ?_
  exact T_fin () (by first | trivial | omega | (simp; done)) (res1 rfl rfl) [] ⟨by decide, rfl⟩ rfl
set_option maxHeartbeats 4000000 in
theorem bsize_f (z : Int) (w : World) (hO : HOK [] w)  : Calls Try.prog 24 [(.int .i64 z)].toArray w (Ret (T := Unit) [] w (fun _ => True) (fun _ => (.int .i64 (bsz z))) (fun _ => [])) := by
 have hF : Wid Fence.wide := wid_wide
 refine enter (c := _) Try.func24 rfl [] _ [] (by rw [Try.ntmps24]; rfl) (own_rds hO rfl) ?_
 rw [Try.ntmps24]
 refine T_re [(0, (.int .i64 z))] (sc rfl sn) ?_
 refine T_he [] [] ⟨by decide, rfl⟩ ?_
 refine Tsr hF rfl ?_
 refine la rfl rfl rfl rfl rfl ?_
 refine L_nil ?_
 refine Tsr hF rfl ?_
 refine lm rfl rfl rfl rfl rfl ?_
 refine lo rfl (pr_min (a := z) (b := ((8 : Nat) : Int)) rfl rfl rfl) rfl rfl ?_
 refine T_slot 4 _ (.int .i64 (min z 8)) rfl (by congr 1; omega) ?_
 refine lo rfl (pr_max (a := ((0 : Nat) : Int)) (b := (min z 8)) rfl rfl rfl) rfl rfl ?_
 refine T_slot 5 _ (.int .i64 (max 0 (min z 8))) rfl (by congr 1; omega) ?_
 refine lo rfl (pr_mul (zw_i64 (z := (((32 : Nat) : Int) * (max 0 (min z 8)))) sd) rfl rfl rfl) rfl rfl ?_
 refine lo rfl (pr_add (zw_i64 (z := ((((32 : Nat) : Int) * (max 0 (min z 8))) + ((16 : Nat) : Int))) sd) rfl rfl rfl) rfl rfl ?_
 refine la rfl rfl rfl rfl rfl ?_
 refine L_nil ?_
 refine T_ret ?_
 refine T_slot 2 _ (.int .i64 (bsz z)) rfl (by rfl) ?_
 exact T_fin () (by first | trivial | omega | (simp; done)) (res1 rfl rfl) [] ⟨by decide, rfl⟩ rfl
set_option maxHeartbeats 4000000 in
theorem rbsize_f (z : Int) (w : World) (hO : HOK [] w)  : Calls Try.prog 25 [(.int .i64 z)].toArray w (Ret (T := Unit) [] w (fun _ => True) (fun _ => (.int .i64 (bsz z))) (fun _ => [])) := by
 have hF : Wid Fence.wide := wid_wide
 refine enter (c := _) Try.func25 rfl [] _ [] (by rw [Try.ntmps25]; rfl) (own_rds hO rfl) ?_
 rw [Try.ntmps25]
 refine T_re [(0, (.int .i64 z))] (sc rfl sn) ?_
 refine T_he [] [] ⟨by decide, rfl⟩ ?_
 refine Tsr hF rfl ?_
 refine la rfl rfl rfl rfl rfl ?_
 refine L_nil ?_
 refine Tsr hF rfl ?_
 refine lm rfl rfl rfl rfl rfl ?_
 refine lo rfl (pr_min (a := z) (b := ((8 : Nat) : Int)) rfl rfl rfl) rfl rfl ?_
 refine T_slot 4 _ (.int .i64 (min z 8)) rfl (by congr 1; omega) ?_
 refine lo rfl (pr_max (a := ((0 : Nat) : Int)) (b := (min z 8)) rfl rfl rfl) rfl rfl ?_
 refine T_slot 5 _ (.int .i64 (max 0 (min z 8))) rfl (by congr 1; omega) ?_
 refine lo rfl (pr_mul (zw_i64 (z := (((32 : Nat) : Int) * (max 0 (min z 8)))) sd) rfl rfl rfl) rfl rfl ?_
 refine lo rfl (pr_add (zw_i64 (z := ((((32 : Nat) : Int) * (max 0 (min z 8))) + ((16 : Nat) : Int))) sd) rfl rfl rfl) rfl rfl ?_
 refine la rfl rfl rfl rfl rfl ?_
 refine L_nil ?_
 refine T_ret ?_
 refine T_slot 2 _ (.int .i64 (bsz z)) rfl (by rfl) ?_
 exact T_fin () (by first | trivial | omega | (simp; done)) (res1 rfl rfl) [] ⟨by decide, rfl⟩ rfl
set_option maxHeartbeats 4000000 in
theorem bpack_f (xs : List Rc) (z : Int) (A : Option Addr) (n : Nat) (c : Nat) (w : World) (hO : HOK [.rd A 4 n c (rcs xs)] w) (hx : xs.length = n) (hn : n ≤ 1000) : Calls Try.prog 9 [(.slice A n c), (.int .i64 z)].toArray w (Ret (T := Option Addr × Nat) [] w (fun ⟨B, e⟩ => True) (fun ⟨B, e⟩ => (.tuple [(.slice B (bpl n z) e), (.int .i64 (((bpe n z) : Nat) : Int))].toArray)) (fun ⟨B, e⟩ => [.row (.slice B (bpl n z) e) 5 1 (bpl n z) ((bpb xs z).map b8)])) := by
 have hrd := rpk_len (Rc.mk true 0#64 0#64 0#64)
 have hF : Wid Fence.wide := wid_wide
 refine enter_m (c := _) Try.func9 rfl [] _ [.rd A 4 n c (rcs xs)] (by rw [Try.ntmps9]; rfl) (own_rds hO rfl) ?_
 rw [Try.ntmps9]
 refine T_re [(0, (.slice A n c)), (1, (.int .i64 z))] (sc rfl (sc rfl sn)) ?_
 refine T_he [0] [.rd A 4 n c (rcs xs)] ⟨by decide, rfl⟩ ?_
 refine Tsr hF rfl ?_
 refine la rfl rfl rfl rfl rfl ?_
 refine la rfl rfl rfl rfl rfl ?_
 refine L_nil ?_
 refine T_seq ?_
 refine T_block ?_
 refine Tsr hF rfl ?_
 refine lm rfl rfl rfl rfl rfl ?_
 refine L_op rfl (op_cn (fun w hw => may_f z w (hok_nil w) ) (enters_of Try.func33 kr rfl) rfl rfl rfl rfl rfl (fun t1 q2 => ?_))
 refine lo rfl (pr_un rfl rfl rfl) rfl rfl ?_
 refine la rfl rfl rfl rfl rfl ?_
 refine L_nil ?_
 refine T_cond (!(mayb z)) rfl (fun hc_3 => ?_) (fun hc_3 => ?_)
 ·
  refine Tsr hF rfl ?_
  refine la rfl rfl rfl rfl rfl ?_
  refine la rfl rfl rfl rfl rfl ?_
  refine L_nil ?_
  refine T_ret ?_
  refine T_slot 4 (.slice none 0 0) (.slice none (bpl n z) 0) rfl (by first | rfl | (rw [bpl_arg (mayb_f (by assumption)), bpb_arg (mayb_f (by assumption))]; rfl) | (rw [bpl_lim hz1 hz2 (by assumption), bpb_lim hz1 hz2 (by omega)]; rfl) | (rw [bpl_ok hq hz1 hz2 (by assumption), bpb_ok hx hq hz1 hz2 (by assumption)]) | (rw [bpe_arg (mayb_f (by assumption))]) | (rw [bpl_arg (mayb_f (by assumption))]) | (rw [bpe_lim hz1 hz2 (by assumption)]) | (rw [bpl_lim hz1 hz2 (by assumption)]) | (rw [bpe_ok hz1 hz2 (by assumption)]) | (rw [bpl_ok hq hz1 hz2 (by assumption)])) ?_
  refine T_slot 5 (.int .i64 ((1 : Nat) : Int)) (.int .i64 (((bpe n z) : Nat) : Int)) rfl (by first | rfl | (rw [bpl_arg (mayb_f (by assumption)), bpb_arg (mayb_f (by assumption))]; rfl) | (rw [bpl_lim hz1 hz2 (by assumption), bpb_lim hz1 hz2 (by omega)]; rfl) | (rw [bpl_ok hq hz1 hz2 (by assumption), bpb_ok hx hq hz1 hz2 (by assumption)]) | (rw [bpe_arg (mayb_f (by assumption))]) | (rw [bpl_arg (mayb_f (by assumption))]) | (rw [bpe_lim hz1 hz2 (by assumption)]) | (rw [bpl_lim hz1 hz2 (by assumption)]) | (rw [bpe_ok hz1 hz2 (by assumption)]) | (rw [bpl_ok hq hz1 hz2 (by assumption)])) ?_
  refine T_nilrow 5 1 ?_
  refine T_as 0 _ (.row (.slice none (bpl n z) 0) 5 1 (bpl n z) ((bpb xs z).map b8)) rfl (by first | rfl | (rw [bpl_arg (mayb_f (by assumption)), bpb_arg (mayb_f (by assumption))]; rfl) | (rw [bpl_lim hz1 hz2 (by assumption), bpb_lim hz1 hz2 (by omega)]; rfl) | (rw [bpl_ok hq hz1 hz2 (by assumption), bpb_ok hx hq hz1 hz2 (by assumption)]) | (rw [bpe_arg (mayb_f (by assumption))]) | (rw [bpl_arg (mayb_f (by assumption))]) | (rw [bpe_lim hz1 hz2 (by assumption)]) | (rw [bpl_lim hz1 hz2 (by assumption)]) | (rw [bpe_ok hz1 hz2 (by assumption)]) | (rw [bpl_ok hq hz1 hz2 (by assumption)])) ?_
  exact T_finM0 (none, 0) (by first | trivial | omega | (simp; done)) (res2 rfl rfl rfl) [0] ⟨by decide, rfl⟩ rfl
 ·
  refine Tsr hF rfl ?_
  refine lm rfl rfl rfl rfl rfl ?_
  obtain ⟨hz1, hz2⟩ := mayb_t (z := z) (by assumption)
  refine lo rfl (pr_len_sl Try.underlying27 rfl rfl) rfl rfl ?_
  refine lm rfl rfl rfl rfl rfl ?_
  refine lo rfl (pr_cmp (bo := .gtr) (k := .i64) (a := ((n : Nat) : Int)) (b := z) (c := decide (z < ((n : Nat) : Int))) rfl rfl rfl rfl rfl) rfl rfl ?_
  refine la rfl rfl rfl rfl rfl ?_
  refine L_nil ?_
  refine T_cond (decide (z < ((n : Nat) : Int))) rfl (fun hc_4 => ?_) (fun hc_4 => ?_)
  ·
   have hc_4 := of_decide_eq_true hc_4
   refine Tsr hF rfl ?_
   refine la rfl rfl rfl rfl rfl ?_
   refine la rfl rfl rfl rfl rfl ?_
   refine L_nil ?_
   refine T_ret ?_
   refine T_slot 4 (.slice none 0 0) (.slice none (bpl n z) 0) rfl (by first | rfl | (rw [bpl_arg (mayb_f (by assumption)), bpb_arg (mayb_f (by assumption))]; rfl) | (rw [bpl_lim hz1 hz2 (by assumption), bpb_lim hz1 hz2 (by omega)]; rfl) | (rw [bpl_ok hq hz1 hz2 (by assumption), bpb_ok hx hq hz1 hz2 (by assumption)]) | (rw [bpe_arg (mayb_f (by assumption))]) | (rw [bpl_arg (mayb_f (by assumption))]) | (rw [bpe_lim hz1 hz2 (by assumption)]) | (rw [bpl_lim hz1 hz2 (by assumption)]) | (rw [bpe_ok hz1 hz2 (by assumption)]) | (rw [bpl_ok hq hz1 hz2 (by assumption)])) ?_
   refine T_slot 5 (.int .i64 ((5 : Nat) : Int)) (.int .i64 (((bpe n z) : Nat) : Int)) rfl (by first | rfl | (rw [bpl_arg (mayb_f (by assumption)), bpb_arg (mayb_f (by assumption))]; rfl) | (rw [bpl_lim hz1 hz2 (by assumption), bpb_lim hz1 hz2 (by omega)]; rfl) | (rw [bpl_ok hq hz1 hz2 (by assumption), bpb_ok hx hq hz1 hz2 (by assumption)]) | (rw [bpe_arg (mayb_f (by assumption))]) | (rw [bpl_arg (mayb_f (by assumption))]) | (rw [bpe_lim hz1 hz2 (by assumption)]) | (rw [bpl_lim hz1 hz2 (by assumption)]) | (rw [bpe_ok hz1 hz2 (by assumption)]) | (rw [bpl_ok hq hz1 hz2 (by assumption)])) ?_
   refine T_nilrow 5 1 ?_
   refine T_as 0 _ (.row (.slice none (bpl n z) 0) 5 1 (bpl n z) ((bpb xs z).map b8)) rfl (by first | rfl | (rw [bpl_arg (mayb_f (by assumption)), bpb_arg (mayb_f (by assumption))]; rfl) | (rw [bpl_lim hz1 hz2 (by assumption), bpb_lim hz1 hz2 (by omega)]; rfl) | (rw [bpl_ok hq hz1 hz2 (by assumption), bpb_ok hx hq hz1 hz2 (by assumption)]) | (rw [bpe_arg (mayb_f (by assumption))]) | (rw [bpl_arg (mayb_f (by assumption))]) | (rw [bpe_lim hz1 hz2 (by assumption)]) | (rw [bpl_lim hz1 hz2 (by assumption)]) | (rw [bpe_ok hz1 hz2 (by assumption)]) | (rw [bpl_ok hq hz1 hz2 (by assumption)])) ?_
   exact T_finM0 (none, 0) (by first | trivial | omega | (simp; done)) (res2 rfl rfl rfl) [0] ⟨by decide, rfl⟩ rfl
  ·
   have hc_4 := of_decide_eq_false hc_4
   refine T_skip ?_
   refine Tsr hF rfl ?_
   refine L_op rfl (op_alloc (z := (.slice none 0 0)) (zs := [(.slice none 0 0)]) kr rfl rfl rfl rfl (fun g5 => ?_))
   obtain ⟨q, hq⟩ : ∃ q : Nat, z = (q : Int) := ⟨z.toNat, by omega⟩
   refine T_slot 1 (.int .i64 z) (.int .i64 ((q : Nat) : Int)) rfl (by rw [hq]) ?_
   refine L_nil ?_
   refine T_seq ?_
   refine Tsr hF rfl ?_
   refine lm rfl rfl rfl rfl rfl ?_
   refine L_op rfl (op_cn (fun w hw => valsr_f A n c w (hok_nil w) ) (enters_of Try.func34 kr rfl) rfl rfl rfl rfl rfl (fun t6 q7 => ?_))
   obtain ⟨g1_8, eg1_8⟩ : ∃ x, x = t6 := ⟨_, rfl⟩
   subst eg1_8
   refine L_nil ?_
   refine T_block ?_
   refine T_tord 0 rfl ?_
   refine T_nilrow 5 1 ?_
   refine T_as 0 _ (.row (.slice none (32 * 0) 0) 5 1 (32 * 0) ((pkl (xs.take 0)).map b8)) rfl (by first | rfl | simp | (congr 1; simp)) ?_
   refine T_as 2 _ (.blk g5 23 [(.slice none (32 * 0) 0)]) rfl (by first | rfl | simp | (congr 1; simp)) ?_
   refine T_range (Θ := Unit) (T := Option Addr × Nat) (Tx := Unit) (cap := [(.pointer (some ⟨g1_8, 0, none⟩))]) (ps := [21]) (valsr_seq xs A n c g1_8 sd sd) rfl (enters_of Try.func57 kr rfl) (fun k ⟨A1, c1⟩ => k ≤ n) (fun k ⟨A1, c1⟩ => [.row (.slice A1 (32 * k) c1) 5 1 (32 * k) ((pkl (xs.take k)).map b8), .blk g5 23 [(.slice A1 (32 * k) c1)], .rd A 4 n c (rcs xs)]) (fun _ => False) (fun _ => []) 0 (none, 0) (by omega) [1, 0, 3] ⟨by decide, rfl⟩ [2, 3] rfl rfl (fun _ _ => rfl) (fun _ => rfl) (fun _ _ => rfl) (fun _ _ => rfl) rfl (fun _ => trivial) ?_ ?_ ?_
   ·
    intro C2 w2 lo2 rs2 l D m k t th rc hrec hk hp
    obtain ⟨A1, c1⟩ := t
    have hp : k ≤ n := hp
    have hk : k < n := hk
    have hrk : (rpk (Rc.mk (rat xs k).d (rat xs k).k (rat xs k).v (rat xs k).s)).length = 32 := rpk_len _
    have hF : Wid (Fence.wide.inRound l) := wid_round l
    refine T_re [(6, (.pointer (some ⟨g5, 0, none⟩))), (21, (.agg [(.bool ((rat xs k).d)), (.int .i64 (i64 (rat xs k).k)), (.int .i64 (i64 (rat xs k).v)), (.int .i64 (i64 (rat xs k).s))].toArray))] (sc rfl (sc rfl sn)) ?_
    refine T_he [0, 1, 2, 3, 4] [.obj l (.loop rc), .obj D (.deferred (some [])), .row (.slice A1 (32 * k) c1) 5 1 (32 * k) ((pkl (xs.take k)).map b8), .blk g5 23 [(.slice A1 (32 * k) c1)], .rd A 4 n c (rcs xs)] ⟨by decide, rfl⟩ ?_
    refine T_reg hF rfl ?_
    refine L_op rfl (op_alloc (z := .agg [(.bool false), (.int .i64 ((0 : Nat) : Int)), (.int .i64 ((0 : Nat) : Int)), (.int .i64 ((0 : Nat) : Int))].toArray) (zs := [(.bool false), (.int .i64 ((0 : Nat) : Int)), (.int .i64 ((0 : Nat) : Int)), (.int .i64 ((0 : Nat) : Int))]) kr rfl rfl rfl rfl (fun g9 => ?_))
    refine L_op rfl (op_sto (n := 4) (vs := [(.bool ((rat xs k).d)), (.int .i64 (i64 (rat xs k).k)), (.int .i64 (i64 (rat xs k).v)), (.int .i64 (i64 (rat xs k).s))]) 0 rfl rfl kr (by simp [Value.oneCell']) kr kr rfl rfl rfl rfl ?_)
    refine L_nil ?_
    refine T_begun 1 rfl hrec ?_
    refine T_block ?_
    refine Tsr hF rfl ?_
    refine lq rfl (ld_agg (ds := [(.bool ((rat xs k).d)), (.int .i64 (i64 (rat xs k).k)), (.int .i64 (i64 (rat xs k).v)), (.int .i64 (i64 (rat xs k).s))]) 1 rfl agg_all Try.underlying43 rfl kr rfl rfl) rfl rfl ?_
    refine L_op rfl (op_cn (fun w hw => rpack_f ((rat xs k).d) ((rat xs k).k) ((rat xs k).v) ((rat xs k).s) w (hok_nil w) ) (enters_of Try.func35 kr rfl) rfl rfl rfl rfl rfl (fun t10 q11 => ?_))
    refine L_op rfl (op_alloc (z := .agg ((List.replicate 32 0#8).map b8).toArray) (zs := ((List.replicate 32 0#8).map b8)) kr rfl rfl rfl rfl (fun g12 => ?_))
    refine L_op rfl (op_sto (n := 32) (vs := ((rpk (Rc.mk ((rat xs k).d) ((rat xs k).k) ((rat xs k).v) ((rat xs k).s))).map b8)) 0 rfl rfl kr (all8_one _) kr sd rfl rfl rfl rfl ?_)
    refine L_nil ?_
    refine T_regD [.blk g12 50 ((rpk (Rc.mk ((rat xs k).d) ((rat xs k).k) ((rat xs k).v) ((rat xs k).s))).map b8), .obj l (.loop { rc with state := .busy }), .blk g9 43 [(.bool ((rat xs k).d)), (.int .i64 (i64 (rat xs k).k)), (.int .i64 (i64 (rat xs k).v)), (.int .i64 (i64 (rat xs k).s))], .obj D (.deferred (some [])), .row (.slice A1 (32 * k) c1) 5 1 (32 * k) ((pkl (xs.take k)).map b8), .blk g5 23 [(.slice A1 (32 * k) c1)], .rd A 4 n c (rcs xs)] 2 4 #[false, false, false, false] hF kr kr ?_
    refine D_pure (i := 1) [0, 1, 2, 3, 4, 5, 6] rfl kr rfl (pr_sla (l := 0) (u := 32) (m := 0) sd sd sd rfl Try.underlying50 (z := 1) kr rfl rfl rfl rfl) (.inr rfl) rfl rfl ?_
    refine D_take (i := 0) [0, 1, 2, 3, 4, 5, 6] rfl kr rfl (ld_blk 5 rfl rfl Try.underlying23 rfl rfl rfl) rfl rfl rfl ?_
    refine D_one 2 _ rfl kr rfl (op_append (z := (b8 (0#8))) (size := 1) (bytes := 1) 4 rfl Try.underlying23 kr kr (by decide) (src_full (z := 1) 0 rfl sd sd sd) (all8_one _) sd sd rfl rfl rfl rfl rfl (fun A13 C14 => ?_))
    refine T_as 0 _ (.row (.slice A13 (32 * k + 32) C14) 5 1 (32 * k + 32) (((pkl (xs.take k)) ++ (rpk (Rc.mk ((rat xs k).d) ((rat xs k).k) ((rat xs k).v) ((rat xs k).s)))).map b8)) rfl (by first | rfl | (congr 1; simp; done) | (simp only [List.map_append]; rfl) | (rw [List.map_append]; rfl)) ?_
    refine D_past kr ?_
    refine D_one 3 _ rfl kr rfl (op_store (vs := [(.slice A13 (32 * k + 32) C14)]) (cs' := [(.slice A13 (32 * k + 32) C14)]) 5 rfl rfl kr (one_one rfl) (by first | decide | simp | exact Nat.le_refl _) rfl rfl rfl rfl rfl ?_)
    refine D_past kr ?_
    refine D_done kr ?_
    refine T_as 1 _ (.row (.slice A13 (32 * (k + 1)) C14) 5 1 (32 * (k + 1)) ((pkl (xs.take (k + 1))).map b8)) rfl (by rw [pkl_take _ _ (by omega)]; rfl) ?_
    refine T_as 1 _ (.blk g5 23 [(.slice A13 (32 * (k + 1)) C14)]) rfl (by congr 1) ?_
    exact T_on (A13, C14) (by omega) [3, 5, 1, 0, 6] ⟨by decide, rfl⟩
   ·
    intro D t hp
    obtain ⟨A1, c1⟩ := t
    have hp : n ≤ n := hp
    refine T_re [(0, (.slice A n c)), (1, (.int .i64 ((q : Nat) : Int))), (6, (.pointer (some ⟨g5, 0, none⟩)))] (sc rfl (sc rfl (sc rfl sn))) ?_
    refine T_he [0, 1, 2, 3] [.obj D (.deferred (some [])), .row (.slice A1 (32 * n) c1) 5 1 (32 * n) ((pkl (xs.take n)).map b8), .blk g5 23 [(.slice A1 (32 * n) c1)], .rd A 4 n c (rcs xs)] ⟨by decide, rfl⟩ ?_
    refine T_seq ?_
    refine Tsr hF rfl ?_
    refine lm rfl rfl rfl rfl rfl ?_
    refine lm rfl rfl rfl rfl rfl ?_
    refine lo rfl (pr_len_sl Try.underlying27 rfl rfl) rfl rfl ?_
    refine lo rfl (pr_sub (ns_i64 (a := q) (b := n) sd sd) rfl rfl rfl) rfl rfl ?_
    refine lm rfl rfl rfl rfl rfl ?_
    refine L_nil ?_
    refine T_block ?_
    refine T_as 1 _ (.row (.slice A1 (32 * (n + 0)) c1) 5 1 (32 * (n + 0)) ((pkl (xs ++ List.replicate 0 rdead)).map b8)) rfl (by rw [List.take_of_length_le (by omega)]; simp) ?_
    refine T_as 2 _ (.blk g5 23 [(.slice A1 (32 * (n + 0)) c1)]) rfl (by simp) ?_
    refine T_loop (T := Nat × Option Addr × Nat) (fun ⟨j, A2, c2⟩ => j ≤ q - n) (fun ⟨j, A2, c2⟩ => [(6, (.pointer (some ⟨g5, 0, none⟩))), (30, (.int .i64 ((q - n : Nat) : Int))), (31, (.int .i64 ((j : Nat) : Int)))]) (fun ⟨j, A2, c2⟩ => [.obj D (.deferred (some [])), .row (.slice A2 (32 * (n + j)) c2) 5 1 (32 * (n + j)) ((pkl (xs ++ List.replicate j rdead)).map b8), .blk g5 23 [(.slice A2 (32 * (n + j)) c2)], .rd A 4 n c (rcs xs)]) (fun ⟨j, A2, c2⟩ => q - n - j) (0, A1, c1) (by first | trivial | ((try dsimp only); first | omega | (refine ⟨?_, ?_⟩ <;> omega) | (refine ⟨?_, ?_, ?_⟩ <;> omega) | (simp; done) | (simp; omega))) (sc rfl (sc rfl (sc rfl sn))) [2, 1, 0, 3] ⟨by decide, rfl⟩ ?_
    rintro ⟨j, A2, c2⟩ hp
    have hp : j ≤ q - n := hp
    refine T_re [(6, (.pointer (some ⟨g5, 0, none⟩))), (30, (.int .i64 ((q - n : Nat) : Int))), (31, (.int .i64 ((j : Nat) : Int)))] (sc rfl (sc rfl (sc rfl sn))) ?_
    refine T_he [0, 1, 2, 3] [.obj D (.deferred (some [])), .row (.slice A2 (32 * (n + j)) c2) 5 1 (32 * (n + j)) ((pkl (xs ++ List.replicate j rdead)).map b8), .blk g5 23 [(.slice A2 (32 * (n + j)) c2)], .rd A 4 n c (rcs xs)] ⟨by decide, rfl⟩ ?_
    refine Tsr hF rfl ?_
    refine lo rfl (pr_cmp (bo := .lss) (nc_lt (a := j) (b := q - n)) rfl rfl rfl rfl) rfl rfl ?_
    refine L_nil ?_
    refine T_seq ?_
    refine T_cond (decide (j < q - n)) rfl (fun hc_15 => ?_) (fun hc_15 => ?_)
    ·
     have hc_15 := of_decide_eq_true hc_15
     refine T_skip ?_
     refine T_seq ?_
     refine T_block ?_
     refine Tsr hF rfl ?_
     refine L_op rfl (op_cn (fun w hw => dead_f  w (hok_nil w) ) (enters_of Try.func36 kr rfl) rfl rfl rfl rfl rfl (fun t16 q17 => ?_))
     refine L_op rfl (op_cn (fun w hw => rpack_f true (0#64) (0#64) (0#64) w (hok_nil w) ) (enters_of Try.func35 kr rfl) rfl rfl rfl rfl rfl (fun t18 q19 => ?_))
     refine L_op rfl (op_alloc (z := .agg ((List.replicate 32 0#8).map b8).toArray) (zs := ((List.replicate 32 0#8).map b8)) kr rfl rfl rfl rfl (fun g20 => ?_))
     refine L_op rfl (op_sto (n := 32) (vs := ((rpk (Rc.mk true (0#64) (0#64) (0#64))).map b8)) 0 rfl rfl kr (all8_one _) kr sd rfl rfl rfl rfl ?_)
     refine L_nil ?_
     refine T_regD [.blk g20 50 ((rpk (Rc.mk true (0#64) (0#64) (0#64))).map b8), .obj D (.deferred (some [])), .row (.slice A2 (32 * (n + j)) c2) 5 1 (32 * (n + j)) ((pkl (xs ++ List.replicate j rdead)).map b8), .blk g5 23 [(.slice A2 (32 * (n + j)) c2)], .rd A 4 n c (rcs xs)] 2 4 #[false, false, false, false] hF kr kr ?_
     refine D_pure (i := 1) [0, 1, 2, 3, 4] rfl kr rfl (pr_sla (l := 0) (u := 32) (m := 0) sd sd sd rfl Try.underlying50 (z := 1) kr rfl rfl rfl rfl) (.inr rfl) rfl rfl ?_
     refine D_take (i := 0) [0, 1, 2, 3, 4] rfl kr rfl (ld_blk 3 rfl rfl Try.underlying23 rfl rfl rfl) rfl rfl rfl ?_
     refine D_one 2 _ rfl kr rfl (op_append (z := (b8 (0#8))) (size := 1) (bytes := 1) 2 rfl Try.underlying23 kr kr (by decide) (src_full (z := 1) 0 rfl sd sd sd) (all8_one _) sd sd rfl rfl rfl rfl rfl (fun A21 C22 => ?_))
     refine T_as 0 _ (.row (.slice A21 (32 * (n + j) + 32) C22) 5 1 (32 * (n + j) + 32) (((pkl (xs ++ List.replicate j rdead)) ++ (rpk (Rc.mk true (0#64) (0#64) (0#64)))).map b8)) rfl (by first | rfl | (congr 1; simp; done) | (simp only [List.map_append]; rfl) | (rw [List.map_append]; rfl)) ?_
     refine D_past kr ?_
     refine D_one 3 _ rfl kr rfl (op_store (vs := [(.slice A21 (32 * (n + j) + 32) C22)]) (cs' := [(.slice A21 (32 * (n + j) + 32) C22)]) 3 rfl rfl kr (one_one rfl) (by first | decide | simp | exact Nat.le_refl _) rfl rfl rfl rfl rfl ?_)
     refine D_past kr ?_
     refine D_done kr ?_
     refine T_reg hF rfl ?_
     refine lo rfl (pr_add (na_i64 (a := j) (b := 1) sd) rfl rfl rfl) rfl rfl ?_
     refine lm rfl rfl rfl rfl rfl ?_
     refine L_nil ?_
     refine T_as 1 _ (.row (.slice A21 (32 * (n + (j + 1))) C22) 5 1 (32 * (n + (j + 1))) ((pkl (xs ++ List.replicate (j + 1) rdead)).map b8)) rfl (by rw [pkl_rep]; rfl) ?_
     refine T_as 1 _ (.blk g5 23 [(.slice A21 (32 * (n + (j + 1))) C22)]) rfl (by congr 1) ?_
     exact T_again (j + 1, A21, C22) (by first | trivial | ((try dsimp only); first | omega | (refine ⟨?_, ?_⟩ <;> omega) | (refine ⟨?_, ?_, ?_⟩ <;> omega) | (simp; done) | (simp; omega))) (by first | trivial | ((try dsimp only); first | omega | (refine ⟨?_, ?_⟩ <;> omega) | (refine ⟨?_, ?_, ?_⟩ <;> omega) | (simp; done) | (simp; omega))) (sc rfl (sc rfl (sc rfl sn))) [3, 1, 0, 4] ⟨by decide, rfl⟩
    ·
     have hc_15 := of_decide_eq_false hc_15
     refine T_exit rfl ?_
     obtain rfl : q - n = j := by omega
     refine Tsr hF rfl ?_
     refine lq rfl (ld_blk 2 rfl rfl Try.underlying23 rfl rfl rfl) rfl rfl ?_
     refine la rfl rfl rfl rfl rfl ?_
     refine la rfl rfl rfl rfl rfl ?_
     refine L_nil ?_
     refine T_ret ?_
     refine T_slot 4 (.slice A2 (32 * (n + (q - n))) c2) (.slice A2 (bpl n z) c2) rfl (by first | rfl | (rw [bpl_arg (mayb_f (by assumption)), bpb_arg (mayb_f (by assumption))]; rfl) | (rw [bpl_lim hz1 hz2 (by assumption), bpb_lim hz1 hz2 (by omega)]; rfl) | (rw [bpl_ok hq hz1 hz2 (by assumption), bpb_ok hx hq hz1 hz2 (by assumption)]) | (rw [bpe_arg (mayb_f (by assumption))]) | (rw [bpl_arg (mayb_f (by assumption))]) | (rw [bpe_lim hz1 hz2 (by assumption)]) | (rw [bpl_lim hz1 hz2 (by assumption)]) | (rw [bpe_ok hz1 hz2 (by assumption)]) | (rw [bpl_ok hq hz1 hz2 (by assumption)])) ?_
     refine T_slot 5 (.int .i64 ((0 : Nat) : Int)) (.int .i64 (((bpe n z) : Nat) : Int)) rfl (by first | rfl | (rw [bpl_arg (mayb_f (by assumption)), bpb_arg (mayb_f (by assumption))]; rfl) | (rw [bpl_lim hz1 hz2 (by assumption), bpb_lim hz1 hz2 (by omega)]; rfl) | (rw [bpl_ok hq hz1 hz2 (by assumption), bpb_ok hx hq hz1 hz2 (by assumption)]) | (rw [bpe_arg (mayb_f (by assumption))]) | (rw [bpl_arg (mayb_f (by assumption))]) | (rw [bpe_lim hz1 hz2 (by assumption)]) | (rw [bpl_lim hz1 hz2 (by assumption)]) | (rw [bpe_ok hz1 hz2 (by assumption)]) | (rw [bpl_ok hq hz1 hz2 (by assumption)])) ?_
     refine T_as 1 _ (.row (.slice A2 (bpl n z) c2) 5 1 (bpl n z) ((bpb xs z).map b8)) rfl (by first | rfl | (rw [bpl_arg (mayb_f (by assumption)), bpb_arg (mayb_f (by assumption))]; rfl) | (rw [bpl_lim hz1 hz2 (by assumption), bpb_lim hz1 hz2 (by omega)]; rfl) | (rw [bpl_ok hq hz1 hz2 (by assumption), bpb_ok hx hq hz1 hz2 (by assumption)]) | (rw [bpe_arg (mayb_f (by assumption))]) | (rw [bpl_arg (mayb_f (by assumption))]) | (rw [bpe_lim hz1 hz2 (by assumption)]) | (rw [bpl_lim hz1 hz2 (by assumption)]) | (rw [bpe_ok hz1 hz2 (by assumption)]) | (rw [bpl_ok hq hz1 hz2 (by assumption)])) ?_
     exact T_finM 1 rfl (A2, c2) (by first | trivial | omega | (simp; done)) (res2 rfl rfl rfl) [0] ⟨by decide, rfl⟩ rfl
   ·
    exact fun D t hq => hq.elim
end Go.Proofs.Ytlplpmkdebemnaa
