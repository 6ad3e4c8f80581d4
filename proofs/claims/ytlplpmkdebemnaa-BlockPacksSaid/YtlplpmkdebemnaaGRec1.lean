/- Records as bytes, by facts. No conditions. -/
import Derived.Test.YtlplpmkdebemnaaGLet1
import Derived.Test.YtlplpmkdebemnaaFwQ
import Derived.Test.YtlplpmkdebemnaaProg
import Derived.Test.YtlplpmkdebemnaaFwU
namespace Go.Proofs.Ytlplpmkdebemnaa
set_option linter.unusedVariables false
set_option linter.unusedSimpArgs false
set_option linter.unnecessarySimpa false
set_option maxRecDepth 100000
open Go.RowKit Bv Fw

/-- 1 of true, else 0. -/
def bitw (d : Bool) : BitVec 64 := if d then 1#64 else 0#64
/-- A record's bytes. -/
def rpk (r : Rc) : List (BitVec 8) := if r.d then eights [1#64, 0#64, 0#64, 0#64] else eights [0#64, r.k, r.v, r.s]
theorem rpk_len (r : Rc) : (rpk r).length = 32 := by unfold rpk; split <;> rw [eights_len] <;> rfl
theorem rpk_t {d : Bool} {k v s : BitVec 64} (h : d = true) : rpk ⟨d, k, v, s⟩ = eights [1#64, 0#64, 0#64, 0#64] := by subst h; rfl
theorem rpk_f {d : Bool} {k v s : BitVec 64} (h : d = false) : rpk ⟨d, k, v, s⟩ = eights [0#64, k, v, s] := by subst h; rfl

set_option maxHeartbeats 4000000 in
theorem all64_seq (xs : List (BitVec 64)) (A : Option Addr) (n : Nat) (c : Nat) (g1 : Nat) (hx : xs.length = n) (hn : n ≤ 1000000) : SeqC (Θ := Unit) Try.prog 73 [(.pointer (some ⟨g1, 0, none⟩))] [.rd (some ⟨g1, 0, none⟩) 1 1 1 [(.slice A n c)], .rd A 1 n c (xs.map b64)] n (fun k _ => [(.int .i64 ((k : Nat) : Int)), (b64 (ath xs k))]) (fun k _ => []) := by
 have hF : Wid Fence.wide := wid_wide
 refine enter_seq (c := _) Try.func73 rfl (by rw [Try.ntmps73]; rfl) rfl ?_
 intro l J Jx W O R hsJ hsX hy hend
 rw [Try.ntmps73]
 refine T_re [(0, (.func (.yield l) #[] #[])), (1, (.pointer (some ⟨g1, 0, none⟩)))] (sc rfl (sc rfl sn)) ?_
 refine T_he [0, 1, 2] [.inv W.heap.size O R (J 0 O R), .rd (some ⟨g1, 0, none⟩) 1 1 1 [(.slice A n c)], .rd A 1 n c (xs.map b64)] ⟨by decide, rfl⟩ ?_
 refine Tsr hF rfl ?_
 refine lq rfl (ld_rdb (src_rd 1 rfl) rfl Try.underlying69 rfl rfl rfl) rfl rfl ?_
 refine lo rfl (pr_len_sl Try.underlying69 rfl rfl) rfl rfl ?_
 refine lm rfl rfl rfl rfl rfl ?_
 refine L_nil ?_
 refine T_block ?_
 refine T_loop (T := Nat × List Nat × List Nat) (fun ⟨k, O, R⟩ => k ≤ n) (fun ⟨k, O, R⟩ => [(0, (.func (.yield l) #[] #[])), (5, (.slice A n c)), (6, (.int .i64 ((n : Nat) : Int))), (7, (.int .i64 ((k : Nat) : Int)))]) (fun ⟨k, O, R⟩ => [.inv W.heap.size O R (J k O R), .rd (some ⟨g1, 0, none⟩) 1 1 1 [(.slice A n c)], .rd A 1 n c (xs.map b64)]) (fun ⟨k, O, R⟩ => n - k) (0, O, R) (by first | trivial | ((try dsimp only); first | omega | (refine ⟨?_, ?_⟩ <;> omega) | (refine ⟨?_, ?_, ?_⟩ <;> omega) | (simp; done) | (simp; omega))) (sc rfl (sc rfl (sc rfl (sc rfl sn)))) [0, 1, 2] ⟨by decide, rfl⟩ ?_
 rintro ⟨k, O, R⟩ hp
 have hp : k ≤ n := hp
 refine T_re [(0, (.func (.yield l) #[] #[])), (5, (.slice A n c)), (6, (.int .i64 ((n : Nat) : Int))), (7, (.int .i64 ((k : Nat) : Int)))] (sc rfl (sc rfl (sc rfl (sc rfl sn)))) ?_
 refine T_he [0, 1, 2] [.inv W.heap.size O R (J k O R), .rd (some ⟨g1, 0, none⟩) 1 1 1 [(.slice A n c)], .rd A 1 n c (xs.map b64)] ⟨by decide, rfl⟩ ?_
 refine Tsr hF rfl ?_
 refine lo rfl (pr_cmp (bo := .lss) (nc_lt (a := k) (b := n)) rfl rfl rfl rfl) rfl rfl ?_
 refine L_nil ?_
 refine T_seq ?_
 refine T_cond (decide (k < n)) rfl (fun hc_1 => ?_) (fun hc_1 => ?_)
 ·
  have hc_1 := of_decide_eq_true hc_1
  refine T_skip ?_
  refine T_seq ?_
  refine T_block ?_
  refine Tsr hF rfl ?_
  refine lm rfl rfl rfl rfl rfl ?_
  refine lo rfl (pr_ixs1 (j := k) (src_none (src_rd 2 rfl)) sd Try.underlying69 kr rfl rfl rfl) rfl rfl ?_
  refine lq rfl (ld_src (m := k) (src_rd 2 rfl) (get64 sd) Try.underlying30 rfl rfl rfl) rfl rfl ?_
  refine la rfl rfl rfl rfl rfl ?_
  refine la rfl rfl rfl rfl rfl ?_
  refine L_nil ?_
  refine T_seq ?_
  refine T_regI ?_
  refine LI_opP hF rfl rfl (op_pr (pr_move rfl rfl) rfl rfl ?_)
  refine LI_opP hF rfl rfl (op_pr (pr_move rfl rfl) rfl rfl ?_)
  refine LI_opP hF rfl rfl (op_pr (pr_move rfl rfl) rfl rfl ?_)
  refine LI_op rfl (op_yield (k := k) () hy sd hsJ hsX 0 rfl [] rfl rfl rfl rfl rfl rfl rfl rfl rfl (fun _ => trivial) (fun O2 R3 => ?_) (fun O4 R5 => ?_))
  ·
   refine LI_opP hF rfl rfl (op_pr (pr_un (v := .bool false) rfl rfl rfl) rfl rfl ?_)
   refine LI_nil ?_
   refine T_cond_f rfl ?_
   refine T_skip ?_
   refine T_reg hF rfl ?_
   refine lo rfl (pr_add (na_i64 (a := k) (b := 1) sd) rfl rfl rfl) rfl rfl ?_
   refine lm rfl rfl rfl rfl rfl ?_
   refine L_nil ?_
   exact T_again (k + 1, O2, R3) (by first | trivial | ((try dsimp only); first | omega | (refine ⟨?_, ?_⟩ <;> omega) | (refine ⟨?_, ?_, ?_⟩ <;> omega) | (simp; done) | (simp; omega))) (by first | trivial | ((try dsimp only); first | omega | (refine ⟨?_, ?_⟩ <;> omega) | (refine ⟨?_, ?_, ?_⟩ <;> omega) | (simp; done) | (simp; omega))) (sc rfl (sc rfl (sc rfl (sc rfl sn)))) [0, 1, 2] ⟨by decide, rfl⟩
  ·
   refine LI_opP hF rfl rfl (op_pr (pr_un (v := .bool true) rfl rfl rfl) rfl rfl ?_)
   refine LI_nil ?_
   refine T_cond_t rfl ?_
   refine T_ret ?_
   exact T_finX rfl rfl 0 rfl
 ·
  have hc_1 := of_decide_eq_false hc_1
  refine T_exit rfl ?_
  obtain rfl : k = n := by omega
  exact T_finJ rfl rfl 0 rfl
set_option maxHeartbeats 4000000 in
theorem all64_f (A : Option Addr) (n : Nat) (c : Nat) (w : World) (hO : HOK [] w)  : Calls Try.prog 58 [(.slice A n c)].toArray w (Ret (T := Nat) [] w (fun g1 => True) (fun g1 => (.func (.func 73) #[] [(.pointer (some ⟨g1, 0, none⟩))].toArray)) (fun g1 => [.old (some ⟨g1, 0, none⟩) 1 1 1 [(.slice A n c)]])) := by
 have hF : Wid Fence.wide := wid_wide
 refine enter (c := _) Try.func58 rfl [] _ [] (by rw [Try.ntmps58]; rfl) (own_rds hO rfl) ?_
 rw [Try.ntmps58]
 refine T_re [(0, (.slice A n c))] (sc rfl sn) ?_
 refine T_he [] [] ⟨by decide, rfl⟩ ?_
 refine Tsr hF rfl ?_
 refine L_op rfl (op_box (zs := [(.slice A n c)]) rfl rfl rfl rfl rfl (fun g1 => ?_))
 refine la rfl rfl rfl rfl rfl ?_
 refine L_nil ?_
 refine Tsr hF rfl ?_
 refine lo rfl (pr_mkfn (us := []) (vs := [(.pointer (some ⟨g1, 0, none⟩))]) rfl rfl rfl) rfl rfl ?_
 refine la rfl rfl rfl rfl rfl ?_
 refine L_nil ?_
 refine T_ret ?_
 refine T_oldb 0 (zs := [(.slice A n c)]) 0 1 1 1 rfl rfl rfl sd sd ?_
 exact T_fin g1 (by first | trivial | omega | (simp; done)) (res1 rfl rfl) [0] ⟨by decide, rfl⟩ rfl
set_option maxHeartbeats 4000000 in
theorem bit_f (d : Bool) (w : World) (hO : HOK [] w)  : Calls Try.prog 59 [(.bool d)].toArray w (Ret (T := Unit) [] w (fun _ => True) (fun _ => (b64 (bitw d))) (fun _ => [])) := by
 have hF : Wid Fence.wide := wid_wide
 refine enter (c := _) Try.func59 rfl [] _ [] (by rw [Try.ntmps59]; rfl) (own_rds hO rfl) ?_
 rw [Try.ntmps59]
 refine T_re [(0, (.bool d))] (sc rfl sn) ?_
 refine T_he [] [] ⟨by decide, rfl⟩ ?_
 refine Tsr hF rfl ?_
 refine la rfl rfl rfl rfl rfl ?_
 refine L_nil ?_
 refine T_seq ?_
 refine Tsr hF rfl ?_
 refine lm rfl rfl rfl rfl rfl ?_
 refine L_nil ?_
 refine T_cond d rfl (fun hc_1 => ?_) (fun hc_1 => ?_)
 ·
  refine Tsr hF rfl ?_
  refine la rfl rfl rfl rfl rfl ?_
  refine L_nil ?_
  refine T_ret ?_
  refine T_slot 2 (b64 (1#64)) (b64 (bitw d)) rfl (by first | (rw [show d = true by assumption]; rfl) | (rw [show d = false by assumption]; rfl)) ?_
  exact T_fin () (by first | trivial | omega | (simp; done)) (res1 rfl rfl) [] ⟨by decide, rfl⟩ rfl
 ·
  refine T_skip ?_
  refine Tsr hF rfl ?_
  refine la rfl rfl rfl rfl rfl ?_
  refine L_nil ?_
  refine T_ret ?_
  refine T_slot 2 (b64 (0#64)) (b64 (bitw d)) rfl (by first | (rw [show d = true by assumption]; rfl) | (rw [show d = false by assumption]; rfl)) ?_
  exact T_fin () (by first | trivial | omega | (simp; done)) (res1 rfl rfl) [] ⟨by decide, rfl⟩ rfl
set_option maxHeartbeats 4000000 in
theorem dead_f  (w : World) (hO : HOK [] w)  : Calls Try.prog 36 [].toArray w (Ret (T := Unit) [] w (fun _ => True) (fun _ => (.agg [(.bool true), (.int .i64 ((0 : Nat) : Int)), (.int .i64 ((0 : Nat) : Int)), (.int .i64 ((0 : Nat) : Int))].toArray)) (fun _ => [])) := by
 have hF : Wid Fence.wide := wid_wide
 refine enter (c := _) Try.func36 rfl [] _ [] (by rw [Try.ntmps36]; rfl) (own_rds hO rfl) ?_
 rw [Try.ntmps36]
 refine T_re [] sn ?_
 refine T_he [] [] ⟨by decide, rfl⟩ ?_
 refine Tsr hF rfl ?_
 refine L_op rfl (op_alloc (z := .agg [(.bool false), (.int .i64 ((0 : Nat) : Int)), (.int .i64 ((0 : Nat) : Int)), (.int .i64 ((0 : Nat) : Int))].toArray) (zs := [(.bool false), (.int .i64 ((0 : Nat) : Int)), (.int .i64 ((0 : Nat) : Int)), (.int .i64 ((0 : Nat) : Int))]) kr rfl rfl rfl rfl (fun g1 => ?_))
 refine L_nil ?_
 refine Tsr hF rfl ?_
 refine lo rfl (pr_build (qs := [(0, (.bool true))]) (v := .agg [(.bool true), (.int .i64 ((0 : Nat) : Int)), (.int .i64 ((0 : Nat) : Int)), (.int .i64 ((0 : Nat) : Int))].toArray) (fun _ => by kernel_rfl) rfl rfl) rfl rfl ?_
 refine L_op rfl (op_sto (n := 4) (vs := [(.bool true), (.int .i64 ((0 : Nat) : Int)), (.int .i64 ((0 : Nat) : Int)), (.int .i64 ((0 : Nat) : Int))]) 0 rfl rfl kr (by simp [Value.oneCell']) kr kr rfl rfl rfl rfl ?_)
 refine L_nil ?_
 refine T_ret ?_
 exact T_fin () (by first | trivial | omega | (simp; done)) (resb 0 rfl rfl rfl Try.underlying43 rfl kr) [] ⟨by decide, rfl⟩ rfl
set_option maxHeartbeats 4000000 in
theorem rdead_f  (w : World) (hO : HOK [] w)  : Calls Try.prog 42 [].toArray w (Ret (T := Unit) [] w (fun _ => True) (fun _ => (.agg [(.bool true), (.int .i64 ((0 : Nat) : Int)), (.int .i64 ((0 : Nat) : Int)), (.int .i64 ((0 : Nat) : Int))].toArray)) (fun _ => [])) := by
 have hF : Wid Fence.wide := wid_wide
 refine enter (c := _) Try.func42 rfl [] _ [] (by rw [Try.ntmps42]; rfl) (own_rds hO rfl) ?_
 rw [Try.ntmps42]
 refine T_re [] sn ?_
 refine T_he [] [] ⟨by decide, rfl⟩ ?_
 refine Tsr hF rfl ?_
 refine L_op rfl (op_alloc (z := .agg [(.bool false), (.int .i64 ((0 : Nat) : Int)), (.int .i64 ((0 : Nat) : Int)), (.int .i64 ((0 : Nat) : Int))].toArray) (zs := [(.bool false), (.int .i64 ((0 : Nat) : Int)), (.int .i64 ((0 : Nat) : Int)), (.int .i64 ((0 : Nat) : Int))]) kr rfl rfl rfl rfl (fun g1 => ?_))
 refine L_nil ?_
 refine Tsr hF rfl ?_
 refine lo rfl (pr_build (qs := [(0, (.bool true))]) (v := .agg [(.bool true), (.int .i64 ((0 : Nat) : Int)), (.int .i64 ((0 : Nat) : Int)), (.int .i64 ((0 : Nat) : Int))].toArray) (fun _ => by kernel_rfl) rfl rfl) rfl rfl ?_
 refine L_op rfl (op_sto (n := 4) (vs := [(.bool true), (.int .i64 ((0 : Nat) : Int)), (.int .i64 ((0 : Nat) : Int)), (.int .i64 ((0 : Nat) : Int))]) 0 rfl rfl kr (by simp [Value.oneCell']) kr kr rfl rfl rfl rfl ?_)
 refine L_nil ?_
 refine T_ret ?_
 exact T_fin () (by first | trivial | omega | (simp; done)) (resb 0 rfl rfl rfl Try.underlying43 rfl kr) [] ⟨by decide, rfl⟩ rfl
set_option maxHeartbeats 4000000 in
theorem rpack_f (d : Bool) (vk : BitVec 64) (vv : BitVec 64) (vs : BitVec 64) (w : World) (hO : HOK [] w)  : Calls Try.prog 35 [(.agg [(.bool d), (.int .i64 (i64 vk)), (.int .i64 (i64 vv)), (.int .i64 (i64 vs))].toArray)].toArray w (Ret (T := Unit) [] w (fun _ => True) (fun _ => (.agg ((rpk (Rc.mk d vk vv vs)).map b8).toArray)) (fun _ => [])) := by
 have hrl := rpk_len (Rc.mk d vk vv vs)
 have hF : Wid Fence.wide := wid_wide
 refine enter_m (c := _) Try.func35 rfl [] _ [] (by rw [Try.ntmps35]; rfl) (own_rds hO rfl) ?_
 rw [Try.ntmps35]
 refine T_re [(0, (.agg [(.bool d), (.int .i64 (i64 vk)), (.int .i64 (i64 vv)), (.int .i64 (i64 vs))].toArray))] (sc rfl sn) ?_
 refine T_he [] [] ⟨by decide, rfl⟩ ?_
 refine Tsr hF rfl ?_
 refine L_op rfl (op_box (zs := [(.bool d), (.int .i64 (i64 vk)), (.int .i64 (i64 vv)), (.int .i64 (i64 vs))]) rfl rfl rfl rfl rfl (fun g1 => ?_))
 refine L_op rfl (op_alloc (z := .agg ((List.replicate 32 0#8).map b8).toArray) (zs := ((List.replicate 32 0#8).map b8)) kr rfl rfl rfl rfl (fun g2 => ?_))
 refine L_nil ?_
 refine T_seq ?_
 refine Tsr hF rfl ?_
 refine lo rfl (pr_fa (m := 0) (m' := 0) (z := 0) (by rfl) Try.underlying43 rfl kr rfl rfl) rfl rfl ?_
 refine lq rfl (ld_blk 1 rfl rfl Try.underlying4 rfl rfl rfl) rfl rfl ?_
 refine L_nil ?_
 refine T_cond d rfl (fun hc_3 => ?_) (fun hc_3 => ?_)
 ·
  refine T_reg hF rfl ?_
  refine L_op rfl (op_cn (fun w hw => dead_f  w (hok_nil w) ) (enters_of Try.func36 kr rfl) rfl rfl rfl rfl rfl (fun t4 q5 => ?_))
  refine L_op rfl (op_sto (n := 4) (vs := [(.bool true), (.int .i64 ((0 : Nat) : Int)), (.int .i64 ((0 : Nat) : Int)), (.int .i64 ((0 : Nat) : Int))]) 1 rfl rfl kr (by simp [Value.oneCell']) kr kr rfl rfl rfl rfl ?_)
  refine L_nil ?_
  refine Tsr hF rfl ?_
  refine L_op rfl (op_alloc (z := (.slice none 0 0)) (zs := [(.slice none 0 0)]) kr rfl rfl rfl rfl (fun g6 => ?_))
  refine L_nil ?_
  refine T_seq ?_
  refine T_seq ?_
  refine T_regD [.blk g6 23 [(.slice none 0 0)], .blk g1 43 [(.bool true), (.int .i64 ((0 : Nat) : Int)), (.int .i64 ((0 : Nat) : Int)), (.int .i64 ((0 : Nat) : Int))], .blk g2 50 ((List.replicate 32 0#8).map b8)] 14 14 #[false, false, false, false, false, false, false, false, false, false, false, false, false, false] hF kr kr ?_
  refine D_pure (i := 0) [0, 1, 2] rfl kr rfl (pr_fa (m := 0) (m' := 0) (z := 0) (by rfl) Try.underlying43 rfl kr rfl rfl) (.inr rfl) rfl rfl ?_
  refine D_pure (i := 3) [0, 1, 2] rfl kr rfl (pr_fa (m := 0) (m' := 1) (z := 0) (by rfl) Try.underlying43 rfl kr rfl rfl) (.inr rfl) rfl rfl ?_
  refine D_pure (i := 6) [0, 1, 2] rfl kr rfl (pr_fa (m := 0) (m' := 2) (z := 0) (by rfl) Try.underlying43 rfl kr rfl rfl) (.inr rfl) rfl rfl ?_
  refine D_pure (i := 9) [0, 1, 2] rfl kr rfl (pr_fa (m := 0) (m' := 3) (z := 0) (by rfl) Try.underlying43 rfl kr rfl rfl) (.inr rfl) rfl rfl ?_
  refine D_take (i := 1) [0, 1, 2] rfl kr rfl (ld_blk 1 rfl rfl Try.underlying4 rfl rfl rfl) rfl rfl rfl ?_
  refine D_take (i := 4) [0, 1, 2] rfl kr rfl (ld_blk 1 rfl rfl Try.underlying2 rfl rfl rfl) rfl rfl rfl ?_
  refine D_pure (i := 5) [0, 1, 2] rfl kr rfl (pr_cv (ni_u64 (a := 0) sd) Try.underlying2 Try.underlying30 rfl rfl) (.inr rfl) rfl rfl ?_
  refine D_take (i := 7) [0, 1, 2] rfl kr rfl (ld_blk 1 rfl rfl Try.underlying2 rfl rfl rfl) rfl rfl rfl ?_
  refine D_pure (i := 8) [0, 1, 2] rfl kr rfl (pr_cv (ni_u64 (a := 0) sd) Try.underlying2 Try.underlying30 rfl rfl) (.inr rfl) rfl rfl ?_
  refine D_take (i := 10) [0, 1, 2] rfl kr rfl (ld_blk 1 rfl rfl Try.underlying2 rfl rfl rfl) rfl rfl rfl ?_
  refine D_pure (i := 11) [0, 1, 2] rfl kr rfl (pr_cv (ni_u64 (a := 0) sd) Try.underlying2 Try.underlying30 rfl rfl) (.inr rfl) rfl rfl ?_
  refine D_one 2 _ rfl kr rfl (op_cn (fun w hw => bit_f true w (hok_nil w) ) (enters_of Try.func59 kr rfl) rfl rfl rfl rfl rfl (fun t7 q8 => ?_))
  refine D_on [0, 1, 2] rfl ?_
  refine D_one 12 _ rfl kr rfl (op_bslice (e := 30) (zs := [(b64 (bitw true)), (.int .u64 ((0 : Nat) : Int)), (.int .u64 ((0 : Nat) : Int)), (.int .u64 ((0 : Nat) : Int))]) (qs := [(0, (b64 (bitw true))), (1, (.int .u64 ((0 : Nat) : Int))), (2, (.int .u64 ((0 : Nat) : Int))), (3, (.int .u64 ((0 : Nat) : Int)))]) (fun _ => by kernel_rfl) rfl rfl rfl rfl (fun g9 => ?_))
  refine D_on [1, 2, 3] rfl ?_
  refine D_one 13 _ rfl kr rfl (op_cn (fun w hw => all64_f (some ⟨g9, 0, none⟩) 4 4 w (hok_nil w) ) (enters_of Try.func58 kr rfl) rfl rfl rfl rfl rfl (fun t10 q11 => ?_))
  obtain ⟨g1_12, eg1_12⟩ : ∃ x, x = t10 := ⟨_, rfl⟩
  subst eg1_12
  refine D_on [2, 3, 4] rfl ?_
  refine D_done kr ?_
  refine T_block ?_
  refine T_tord 0 rfl ?_
  refine T_oldb 1 (zs := ([(bitw true), 0#64, 0#64, 0#64].map b64)) 0 1 4 4 rfl sd (by first | rfl | (rw [List.drop_zero, List.take_of_length_le (by first | (simp; omega) | (rw [rcs_len]; simp))])) sd sd ?_
  refine T_tord 0 rfl ?_
  refine T_nilrow 5 1 ?_
  refine T_as 0 _ (.row (.slice none (8 * 0) 0) 5 1 (8 * 0) ((eights (List.take 0 [(bitw true), 0#64, 0#64, 0#64])).map b8)) rfl (by first | rfl | simp | (congr 1; simp)) ?_
  refine T_as 3 _ (.blk g6 23 [(.slice none (8 * 0) 0)]) rfl (by first | rfl | simp | (congr 1; simp)) ?_
  refine T_range (Θ := Unit) (T := Option Addr × Nat) (Tx := Unit) (cap := [(.pointer (some ⟨g1_12, 0, none⟩))]) (ps := [23, 24]) (all64_seq [(bitw true), 0#64, 0#64, 0#64] (some ⟨g9, 0, none⟩) 4 4 g1_12 sd sd) rfl (enters_of Try.func73 kr rfl) (fun k ⟨A1, c1⟩ => k ≤ 4) (fun k ⟨A1, c1⟩ => [.row (.slice A1 (8 * k) c1) 5 1 (8 * k) ((eights (List.take k [(bitw true), 0#64, 0#64, 0#64])).map b8), .rd (some ⟨g1_12, 0, none⟩) 1 1 1 [(.slice (some ⟨g9, 0, none⟩) 4 4)], .blk g6 23 [(.slice A1 (8 * k) c1)], .blk g1 43 [(.bool true), (.int .i64 ((0 : Nat) : Int)), (.int .i64 ((0 : Nat) : Int)), (.int .i64 ((0 : Nat) : Int))], .blk g2 50 ((List.replicate 32 0#8).map b8)]) (fun _ => False) (fun _ => []) 0 (none, 0) (by omega) [1, 3, 0, 4, 5] ⟨by decide, rfl⟩ [3, 2] rfl rfl (fun _ _ => rfl) (fun _ => rfl) (fun _ _ => rfl) (fun _ _ => rfl) rfl (fun _ => trivial) ?_ ?_ ?_
  ·
   intro C2 w2 lo2 rs2 l D m k t th rc hrec hk hp
   obtain ⟨A1, c1⟩ := t
   have hp : k ≤ 4 := hp
   have hk : k < 4 := hk
   have hF : Wid (Fence.wide.inRound l) := wid_round l
   refine T_re [(3, (.pointer (some ⟨g6, 0, none⟩))), (23, (.int .i64 ((k : Nat) : Int))), (24, (b64 (ath [(bitw true), 0#64, 0#64, 0#64] k)))] (sc rfl (sc rfl (sc rfl sn))) ?_
   refine T_he [0, 1, 2, 3, 4, 5, 6] [.obj l (.loop rc), .obj D (.deferred (some [])), .row (.slice A1 (8 * k) c1) 5 1 (8 * k) ((eights (List.take k [(bitw true), 0#64, 0#64, 0#64])).map b8), .rd (some ⟨g1_12, 0, none⟩) 1 1 1 [(.slice (some ⟨g9, 0, none⟩) 4 4)], .blk g6 23 [(.slice A1 (8 * k) c1)], .blk g1 43 [(.bool true), (.int .i64 ((0 : Nat) : Int)), (.int .i64 ((0 : Nat) : Int)), (.int .i64 ((0 : Nat) : Int))], .blk g2 50 ((List.replicate 32 0#8).map b8)] ⟨by decide, rfl⟩ ?_
   refine T_reg hF rfl ?_
   refine la rfl rfl rfl rfl rfl ?_
   refine L_nil ?_
   refine T_begun 0 rfl hrec ?_
   refine T_block ?_
   refine T_reg hF rfl ?_
   refine lq rfl (ld_blk 4 rfl rfl Try.underlying23 rfl rfl rfl) rfl rfl ?_
   refine lm rfl rfl rfl rfl rfl ?_
   refine L_op rfl (op_c1 2 rfl (fun w hw => putLow_f (eights (List.take k [(bitw true), 0#64, 0#64, 0#64])) (ath [(bitw true), 0#64, 0#64, 0#64] k) 8 A1 (8 * k) c1 w (hw _ (List.mem_of_getElem? (i := 2) rfl)) sd sd) (enters_of Try.func60 kr rfl) rfl rfl rfl rfl rfl (fun t13 q14 => ?_))
   obtain ⟨B15, d16⟩ := t13
   refine L_op rfl (op_store (vs := [(.slice B15 ((8 * k) + 8) d16)]) (cs' := [(.slice B15 ((8 * k) + 8) d16)]) 4 rfl rfl kr (one_one rfl) (by first | decide | simp | exact Nat.le_refl _) rfl rfl rfl rfl rfl ?_)
   refine L_nil ?_
   refine T_as 1 _ (.row (.slice B15 (8 * (k + 1)) d16) 5 1 (8 * (k + 1)) ((eights (List.take (k + 1) [(bitw true), 0#64, 0#64, 0#64])).map b8)) rfl (by rw [eights_take _ _ (by simp; omega)]; rfl) ?_
   refine T_as 1 _ (.blk g6 23 [(.slice B15 (8 * (k + 1)) d16)]) rfl (by congr 1) ?_
   exact T_on (B15, d16) (by omega) [2, 3, 1, 4, 0, 5, 6] ⟨by decide, rfl⟩
  ·
   intro D t hp
   obtain ⟨A1, c1⟩ := t
   have hp : 4 ≤ 4 := hp
   have hel : (eights (List.take 4 [(bitw true), 0#64, 0#64, 0#64])).length = 32 := by rw [eights_len]; rfl
   refine T_re [(2, (.pointer (some ⟨g2, 0, none⟩))), (3, (.pointer (some ⟨g6, 0, none⟩)))] (sc rfl (sc rfl sn)) ?_
   refine T_he [0, 1, 2, 3, 4, 5] [.obj D (.deferred (some [])), .row (.slice A1 (8 * 4) c1) 5 1 (8 * 4) ((eights (List.take 4 [(bitw true), 0#64, 0#64, 0#64])).map b8), .rd (some ⟨g1_12, 0, none⟩) 1 1 1 [(.slice (some ⟨g9, 0, none⟩) 4 4)], .blk g6 23 [(.slice A1 (8 * 4) c1)], .blk g1 43 [(.bool true), (.int .i64 ((0 : Nat) : Int)), (.int .i64 ((0 : Nat) : Int)), (.int .i64 ((0 : Nat) : Int))], .blk g2 50 ((List.replicate 32 0#8).map b8)] ⟨by decide, rfl⟩ ?_
   refine Tsr hF rfl ?_
   refine lq rfl (ld_blk 3 rfl rfl Try.underlying23 rfl rfl rfl) rfl rfl ?_
   refine lo rfl (pr_s2a sd Try.underlying50 rfl rfl) rfl rfl ?_
   refine lq rfl (ld_aggs (ds := ((eights (List.take 4 [(bitw true), 0#64, 0#64, 0#64])).map b8)) (src_row 1 rfl) (List.take_length) (by have h1 : (((eights (List.take 4 [(bitw true), 0#64, 0#64, 0#64])).map b8)).length = 32 := sd; omega) Try.underlying50 rfl (fwz (n := 32) kr sd) rfl rfl) rfl rfl ?_
   refine L_op rfl (op_sto (n := 32) (vs := ((eights (List.take 4 [(bitw true), 0#64, 0#64, 0#64])).map b8)) 5 rfl rfl kr (all8_one _) kr sd rfl rfl rfl rfl ?_)
   refine L_nil ?_
   refine T_ret ?_
   refine T_as 0 _ (.blk g2 50 ((rpk (Rc.mk d vk vv vs)).map b8)) rfl (by first | (rw [rpk_t (by assumption)]; rfl) | (rw [rpk_f (by assumption), show d = false by assumption]; rfl)) ?_
   exact T_finM 1 rfl () (by first | trivial | omega | (simp; done)) (resb 0 rfl rfl rfl Try.underlying50 rfl (fwz (n := 32) kr sd)) [] ⟨by decide, rfl⟩ rfl
  ·
   exact fun D t hq => hq.elim
 ·
  refine T_skip ?_
  refine Tsr hF rfl ?_
  refine L_op rfl (op_alloc (z := (.slice none 0 0)) (zs := [(.slice none 0 0)]) kr rfl rfl rfl rfl (fun g17 => ?_))
  refine L_nil ?_
  refine T_seq ?_
  refine T_seq ?_
  refine T_regD [.blk g17 23 [(.slice none 0 0)], .blk g2 50 ((List.replicate 32 0#8).map b8), .blk g1 43 [(.bool d), (.int .i64 (i64 vk)), (.int .i64 (i64 vv)), (.int .i64 (i64 vs))]] 14 14 #[false, false, false, false, false, false, false, false, false, false, false, false, false, false] hF kr kr ?_
  refine D_pure (i := 0) [0, 1, 2] rfl kr rfl (pr_fa (m := 0) (m' := 0) (z := 0) (by rfl) Try.underlying43 rfl kr rfl rfl) (.inr rfl) rfl rfl ?_
  refine D_pure (i := 3) [0, 1, 2] rfl kr rfl (pr_fa (m := 0) (m' := 1) (z := 0) (by rfl) Try.underlying43 rfl kr rfl rfl) (.inr rfl) rfl rfl ?_
  refine D_pure (i := 6) [0, 1, 2] rfl kr rfl (pr_fa (m := 0) (m' := 2) (z := 0) (by rfl) Try.underlying43 rfl kr rfl rfl) (.inr rfl) rfl rfl ?_
  refine D_pure (i := 9) [0, 1, 2] rfl kr rfl (pr_fa (m := 0) (m' := 3) (z := 0) (by rfl) Try.underlying43 rfl kr rfl rfl) (.inr rfl) rfl rfl ?_
  refine D_take (i := 1) [0, 1, 2] rfl kr rfl (ld_blk 2 rfl rfl Try.underlying4 rfl rfl rfl) rfl rfl rfl ?_
  refine D_take (i := 4) [0, 1, 2] rfl kr rfl (ld_blk 2 rfl rfl Try.underlying2 rfl rfl rfl) rfl rfl rfl ?_
  refine D_pure (i := 5) [0, 1, 2] rfl kr rfl (pr_cv (zc_i64u vk) Try.underlying2 Try.underlying30 rfl rfl) (.inr rfl) rfl rfl ?_
  refine D_take (i := 7) [0, 1, 2] rfl kr rfl (ld_blk 2 rfl rfl Try.underlying2 rfl rfl rfl) rfl rfl rfl ?_
  refine D_pure (i := 8) [0, 1, 2] rfl kr rfl (pr_cv (zc_i64u vv) Try.underlying2 Try.underlying30 rfl rfl) (.inr rfl) rfl rfl ?_
  refine D_take (i := 10) [0, 1, 2] rfl kr rfl (ld_blk 2 rfl rfl Try.underlying2 rfl rfl rfl) rfl rfl rfl ?_
  refine D_pure (i := 11) [0, 1, 2] rfl kr rfl (pr_cv (zc_i64u vs) Try.underlying2 Try.underlying30 rfl rfl) (.inr rfl) rfl rfl ?_
  refine D_one 2 _ rfl kr rfl (op_cn (fun w hw => bit_f d w (hok_nil w) ) (enters_of Try.func59 kr rfl) rfl rfl rfl rfl rfl (fun t18 q19 => ?_))
  refine D_on [0, 1, 2] rfl ?_
  refine D_one 12 _ rfl kr rfl (op_bslice (e := 30) (zs := [(b64 (bitw d)), (b64 vk), (b64 vv), (b64 vs)]) (qs := [(0, (b64 (bitw d))), (1, (b64 vk)), (2, (b64 vv)), (3, (b64 vs))]) (fun _ => by kernel_rfl) rfl rfl rfl rfl (fun g20 => ?_))
  refine D_on [1, 2, 3] rfl ?_
  refine D_one 13 _ rfl kr rfl (op_cn (fun w hw => all64_f (some ⟨g20, 0, none⟩) 4 4 w (hok_nil w) ) (enters_of Try.func58 kr rfl) rfl rfl rfl rfl rfl (fun t21 q22 => ?_))
  obtain ⟨g1_23, eg1_23⟩ : ∃ x, x = t21 := ⟨_, rfl⟩
  subst eg1_23
  refine D_on [2, 3, 4] rfl ?_
  refine D_done kr ?_
  refine T_block ?_
  refine T_tord 0 rfl ?_
  refine T_oldb 1 (zs := ([(bitw d), vk, vv, vs].map b64)) 0 1 4 4 rfl sd (by first | rfl | (rw [List.drop_zero, List.take_of_length_le (by first | (simp; omega) | (rw [rcs_len]; simp))])) sd sd ?_
  refine T_tord 0 rfl ?_
  refine T_nilrow 5 1 ?_
  refine T_as 0 _ (.row (.slice none (8 * 0) 0) 5 1 (8 * 0) ((eights (List.take 0 [(bitw d), vk, vv, vs])).map b8)) rfl (by first | rfl | simp | (congr 1; simp)) ?_
  refine T_as 3 _ (.blk g17 23 [(.slice none (8 * 0) 0)]) rfl (by first | rfl | simp | (congr 1; simp)) ?_
  refine T_range (Θ := Unit) (T := Option Addr × Nat) (Tx := Unit) (cap := [(.pointer (some ⟨g1_23, 0, none⟩))]) (ps := [23, 24]) (all64_seq [(bitw d), vk, vv, vs] (some ⟨g20, 0, none⟩) 4 4 g1_23 sd sd) rfl (enters_of Try.func73 kr rfl) (fun k ⟨A1, c1⟩ => k ≤ 4) (fun k ⟨A1, c1⟩ => [.row (.slice A1 (8 * k) c1) 5 1 (8 * k) ((eights (List.take k [(bitw d), vk, vv, vs])).map b8), .rd (some ⟨g1_23, 0, none⟩) 1 1 1 [(.slice (some ⟨g20, 0, none⟩) 4 4)], .blk g17 23 [(.slice A1 (8 * k) c1)], .blk g2 50 ((List.replicate 32 0#8).map b8), .blk g1 43 [(.bool d), (.int .i64 (i64 vk)), (.int .i64 (i64 vv)), (.int .i64 (i64 vs))]]) (fun _ => False) (fun _ => []) 0 (none, 0) (by omega) [1, 3, 0, 4, 5] ⟨by decide, rfl⟩ [3, 2] rfl rfl (fun _ _ => rfl) (fun _ => rfl) (fun _ _ => rfl) (fun _ _ => rfl) rfl (fun _ => trivial) ?_ ?_ ?_
  ·
   intro C2 w2 lo2 rs2 l D m k t th rc hrec hk hp
   obtain ⟨A1, c1⟩ := t
   have hp : k ≤ 4 := hp
   have hk : k < 4 := hk
   have hF : Wid (Fence.wide.inRound l) := wid_round l
   refine T_re [(3, (.pointer (some ⟨g17, 0, none⟩))), (23, (.int .i64 ((k : Nat) : Int))), (24, (b64 (ath [(bitw d), vk, vv, vs] k)))] (sc rfl (sc rfl (sc rfl sn))) ?_
   refine T_he [0, 1, 2, 3, 4, 5, 6] [.obj l (.loop rc), .obj D (.deferred (some [])), .row (.slice A1 (8 * k) c1) 5 1 (8 * k) ((eights (List.take k [(bitw d), vk, vv, vs])).map b8), .rd (some ⟨g1_23, 0, none⟩) 1 1 1 [(.slice (some ⟨g20, 0, none⟩) 4 4)], .blk g17 23 [(.slice A1 (8 * k) c1)], .blk g2 50 ((List.replicate 32 0#8).map b8), .blk g1 43 [(.bool d), (.int .i64 (i64 vk)), (.int .i64 (i64 vv)), (.int .i64 (i64 vs))]] ⟨by decide, rfl⟩ ?_
   refine T_reg hF rfl ?_
   refine la rfl rfl rfl rfl rfl ?_
   refine L_nil ?_
   refine T_begun 0 rfl hrec ?_
   refine T_block ?_
   refine T_reg hF rfl ?_
   refine lq rfl (ld_blk 4 rfl rfl Try.underlying23 rfl rfl rfl) rfl rfl ?_
   refine lm rfl rfl rfl rfl rfl ?_
   refine L_op rfl (op_c1 2 rfl (fun w hw => putLow_f (eights (List.take k [(bitw d), vk, vv, vs])) (ath [(bitw d), vk, vv, vs] k) 8 A1 (8 * k) c1 w (hw _ (List.mem_of_getElem? (i := 2) rfl)) sd sd) (enters_of Try.func60 kr rfl) rfl rfl rfl rfl rfl (fun t24 q25 => ?_))
   obtain ⟨B26, d27⟩ := t24
   refine L_op rfl (op_store (vs := [(.slice B26 ((8 * k) + 8) d27)]) (cs' := [(.slice B26 ((8 * k) + 8) d27)]) 4 rfl rfl kr (one_one rfl) (by first | decide | simp | exact Nat.le_refl _) rfl rfl rfl rfl rfl ?_)
   refine L_nil ?_
   refine T_as 1 _ (.row (.slice B26 (8 * (k + 1)) d27) 5 1 (8 * (k + 1)) ((eights (List.take (k + 1) [(bitw d), vk, vv, vs])).map b8)) rfl (by rw [eights_take _ _ (by simp; omega)]; rfl) ?_
   refine T_as 1 _ (.blk g17 23 [(.slice B26 (8 * (k + 1)) d27)]) rfl (by congr 1) ?_
   exact T_on (B26, d27) (by omega) [2, 3, 1, 4, 0, 5, 6] ⟨by decide, rfl⟩
  ·
   intro D t hp
   obtain ⟨A1, c1⟩ := t
   have hp : 4 ≤ 4 := hp
   have hel : (eights (List.take 4 [(bitw d), vk, vv, vs])).length = 32 := by rw [eights_len]; rfl
   refine T_re [(2, (.pointer (some ⟨g2, 0, none⟩))), (3, (.pointer (some ⟨g17, 0, none⟩)))] (sc rfl (sc rfl sn)) ?_
   refine T_he [0, 1, 2, 3, 4, 5] [.obj D (.deferred (some [])), .row (.slice A1 (8 * 4) c1) 5 1 (8 * 4) ((eights (List.take 4 [(bitw d), vk, vv, vs])).map b8), .rd (some ⟨g1_23, 0, none⟩) 1 1 1 [(.slice (some ⟨g20, 0, none⟩) 4 4)], .blk g17 23 [(.slice A1 (8 * 4) c1)], .blk g2 50 ((List.replicate 32 0#8).map b8), .blk g1 43 [(.bool d), (.int .i64 (i64 vk)), (.int .i64 (i64 vv)), (.int .i64 (i64 vs))]] ⟨by decide, rfl⟩ ?_
   refine Tsr hF rfl ?_
   refine lq rfl (ld_blk 3 rfl rfl Try.underlying23 rfl rfl rfl) rfl rfl ?_
   refine lo rfl (pr_s2a sd Try.underlying50 rfl rfl) rfl rfl ?_
   refine lq rfl (ld_aggs (ds := ((eights (List.take 4 [(bitw d), vk, vv, vs])).map b8)) (src_row 1 rfl) (List.take_length) (by have h1 : (((eights (List.take 4 [(bitw d), vk, vv, vs])).map b8)).length = 32 := sd; omega) Try.underlying50 rfl (fwz (n := 32) kr sd) rfl rfl) rfl rfl ?_
   refine L_op rfl (op_sto (n := 32) (vs := ((eights (List.take 4 [(bitw d), vk, vv, vs])).map b8)) 4 rfl rfl kr (all8_one _) kr sd rfl rfl rfl rfl ?_)
   refine L_nil ?_
   refine T_ret ?_
   refine T_as 0 _ (.blk g2 50 ((rpk (Rc.mk d vk vv vs)).map b8)) rfl (by first | (rw [rpk_t (by assumption)]; rfl) | (rw [rpk_f (by assumption), show d = false by assumption]; rfl)) ?_
   exact T_finM 1 rfl () (by first | trivial | omega | (simp; done)) (resb 0 rfl rfl rfl Try.underlying50 rfl (fwz (n := 32) kr sd)) [] ⟨by decide, rfl⟩ rfl
  ·
   exact fun D t hq => hq.elim
/-- The first so many bytes of some, the rest still zero. -/
def cpd (b : List (BitVec 8)) (k : Nat) : List (BitVec 8) := List.take k b ++ List.replicate (32 - k) 0#8
theorem cpd_len (b : List (BitVec 8)) (k : Nat) (hb : b.length = 32) (h : k ≤ 32) : (cpd b k).length = 32 := by unfold cpd; simp [hb]; omega
theorem cpd_set (b : List (BitVec 8)) (k : Nat) (hb : b.length = 32) (h : k < 32) : (cpd b k).set k (ath b k) = cpd b (k + 1) := by
  unfold cpd
  rw [List.set_append_right _ _ (by simp; omega), List.length_take, hb, show k - min k 32 = 0 from by omega, show 32 - k = (32 - (k + 1)) + 1 from by omega, List.replicate_succ, List.set_cons_zero, List.take_succ_eq_append_getElem (by omega), ath_get b k (by omega), List.append_assoc]
  rfl
theorem cpd_all (b : List (BitVec 8)) (hb : b.length = 32) : cpd b 32 = b := by unfold cpd; rw [List.take_of_length_le (by omega)]; simp

set_option maxHeartbeats 4000000 in
theorem rrpack_f (d : Bool) (vk : BitVec 64) (vv : BitVec 64) (vs : BitVec 64) (w : World) (hO : HOK [] w)  : Calls Try.prog 43 [(.agg [(.bool d), (.int .i64 (i64 vk)), (.int .i64 (i64 vv)), (.int .i64 (i64 vs))].toArray)].toArray w (Ret (T := Unit) [] w (fun _ => True) (fun _ => (.agg ((rpk (Rc.mk d vk vv vs)).map b8).toArray)) (fun _ => [])) := by
 have hrl := rpk_len (Rc.mk d vk vv vs)
 have hF : Wid Fence.wide := wid_wide
 refine enter (c := _) Try.func43 rfl [] _ [] (by rw [Try.ntmps43]; rfl) (own_rds hO rfl) ?_
 rw [Try.ntmps43]
 refine T_re [(0, (.agg [(.bool d), (.int .i64 (i64 vk)), (.int .i64 (i64 vv)), (.int .i64 (i64 vs))].toArray))] (sc rfl sn) ?_
 refine T_he [] [] ⟨by decide, rfl⟩ ?_
 refine Tsr hF rfl ?_
 refine L_op rfl (op_box (zs := [(.bool d), (.int .i64 (i64 vk)), (.int .i64 (i64 vv)), (.int .i64 (i64 vs))]) rfl rfl rfl rfl rfl (fun g1 => ?_))
 refine L_op rfl (op_alloc (z := .agg ((List.replicate 32 0#8).map b8).toArray) (zs := ((List.replicate 32 0#8).map b8)) kr rfl rfl rfl rfl (fun g2 => ?_))
 refine L_nil ?_
 refine Tsr hF rfl ?_
 refine lo rfl (pr_fa (m := 0) (m' := 1) (z := 0) (by rfl) Try.underlying43 rfl kr rfl rfl) rfl rfl ?_
 refine lq rfl (ld_blk 1 rfl rfl Try.underlying2 rfl rfl rfl) rfl rfl ?_
 refine lo rfl (pr_cv (zc_i64u vk) Try.underlying2 Try.underlying30 rfl rfl) rfl rfl ?_
 refine lo rfl (pr_fa (m := 0) (m' := 2) (z := 0) (by rfl) Try.underlying43 rfl kr rfl rfl) rfl rfl ?_
 refine lq rfl (ld_blk 1 rfl rfl Try.underlying2 rfl rfl rfl) rfl rfl ?_
 refine lo rfl (pr_cv (zc_i64u vv) Try.underlying2 Try.underlying30 rfl rfl) rfl rfl ?_
 refine lo rfl (pr_fa (m := 0) (m' := 3) (z := 0) (by rfl) Try.underlying43 rfl kr rfl rfl) rfl rfl ?_
 refine lq rfl (ld_blk 1 rfl rfl Try.underlying2 rfl rfl rfl) rfl rfl ?_
 refine lo rfl (pr_cv (zc_i64u vs) Try.underlying2 Try.underlying30 rfl rfl) rfl rfl ?_
 refine L_op rfl (op_bslice (e := 30) (zs := [(b64 (0#64)), (b64 vk), (b64 vv), (b64 vs)]) (qs := [(0, (b64 (0#64))), (1, (b64 vk)), (2, (b64 vv)), (3, (b64 vs))]) (fun _ => by kernel_rfl) rfl rfl rfl rfl (fun g3 => ?_))
 refine L_op rfl (op_cn (fun w hw => eights_f [0#64, vk, vv, vs] (some ⟨g3, 0, none⟩) 4 4 w (hok_cons ((src_full (z := 1) 0 rfl rfl sd sd) w hw) (hok_nil w)) sd sd) (enters_of Try.func29 kr rfl) rfl rfl rfl rfl rfl (fun t4 q5 => ?_))
 obtain ⟨B6, d7⟩ := t4
 refine la rfl rfl rfl rfl rfl ?_
 refine L_nil ?_
 refine T_seq ?_
 refine Tsr hF rfl ?_
 refine lo rfl (pr_fa (m := 0) (m' := 0) (z := 0) (by rfl) Try.underlying43 rfl kr rfl rfl) rfl rfl ?_
 refine lq rfl (ld_blk 3 rfl rfl Try.underlying4 rfl rfl rfl) rfl rfl ?_
 refine L_nil ?_
 refine T_cond d rfl (fun hc_8 => ?_) (fun hc_8 => ?_)
 ·
  refine T_reg hF rfl ?_
  refine L_op rfl (op_bslice (e := 30) (zs := [(b64 (1#64)), (b64 (0#64)), (b64 (0#64)), (b64 (0#64))]) (qs := [(0, (b64 (1#64))), (1, (b64 (0#64))), (2, (b64 (0#64))), (3, (b64 (0#64)))]) (fun _ => by kernel_rfl) rfl rfl rfl rfl (fun g9 => ?_))
  refine L_op rfl (op_cn (fun w hw => eights_f [1#64, 0#64, 0#64, 0#64] (some ⟨g9, 0, none⟩) 4 4 w (hok_cons ((src_full (z := 1) 0 rfl rfl sd sd) w hw) (hok_nil w)) sd sd) (enters_of Try.func29 kr rfl) rfl rfl rfl rfl rfl (fun t10 q11 => ?_))
  obtain ⟨B12, d13⟩ := t10
  refine la rfl rfl rfl rfl rfl ?_
  refine L_nil ?_
  refine Tsr hF rfl ?_
  refine L_op rfl (op_alloc (z := .agg ((List.replicate 32 0#8).map b8).toArray) (zs := ((List.replicate 32 0#8).map b8)) kr rfl rfl rfl rfl (fun g14 => ?_))
  refine L_nil ?_
  refine T_seq ?_
  refine Tsr hF rfl ?_
  refine la rfl rfl rfl rfl rfl ?_
  refine L_nil ?_
  refine T_block ?_
  refine T_as 0 _ (.blk g14 50 ((cpd (eights [1#64, 0#64, 0#64, 0#64]) 0).map b8)) rfl (rfl) ?_
  refine T_loop (T := Nat) (fun j => j ≤ 32) (fun j => [(2, (.pointer (some ⟨g2, 0, none⟩))), (3, (.slice B12 (8 * 4) d13)), (4, (.pointer (some ⟨g14, 0, none⟩))), (5, (.int .i64 ((j : Nat) : Int)))]) (fun j => [.blk g14 50 ((cpd (eights [1#64, 0#64, 0#64, 0#64]) j).map b8), .row (.slice B12 (8 * 4) d13) 5 1 (8 * 4) ((eights [1#64, 0#64, 0#64, 0#64]).map b8), .blk g9 30 [(b64 (1#64)), (b64 (0#64)), (b64 (0#64)), (b64 (0#64))], .row (.slice B6 (8 * 4) d7) 5 1 (8 * 4) ((eights [0#64, vk, vv, vs]).map b8), .blk g3 30 [(b64 (0#64)), (b64 vk), (b64 vv), (b64 vs)], .blk g2 50 ((List.replicate 32 0#8).map b8), .blk g1 43 [(.bool d), (.int .i64 (i64 vk)), (.int .i64 (i64 vv)), (.int .i64 (i64 vs))]]) (fun j => 32 - j) 0 (by omega) (sc rfl (sc rfl (sc rfl (sc rfl sn)))) [0, 1, 2, 3, 4, 5, 6] ⟨by decide, rfl⟩ ?_
  rintro j hp
  have hp : j ≤ 32 := hp
  have hel : ((eights [1#64, 0#64, 0#64, 0#64])).length = 32 := by rw [eights_len]; rfl
  have hcp := cpd_len (eights [1#64, 0#64, 0#64, 0#64]) j hel hp
  refine T_re [(2, (.pointer (some ⟨g2, 0, none⟩))), (3, (.slice B12 (8 * 4) d13)), (4, (.pointer (some ⟨g14, 0, none⟩))), (5, (.int .i64 ((j : Nat) : Int)))] (sc rfl (sc rfl (sc rfl (sc rfl sn)))) ?_
  refine T_he [0, 1, 2, 3, 4, 5, 6] [.blk g14 50 ((cpd (eights [1#64, 0#64, 0#64, 0#64]) j).map b8), .row (.slice B12 (8 * 4) d13) 5 1 (8 * 4) ((eights [1#64, 0#64, 0#64, 0#64]).map b8), .blk g9 30 [(b64 (1#64)), (b64 (0#64)), (b64 (0#64)), (b64 (0#64))], .row (.slice B6 (8 * 4) d7) 5 1 (8 * 4) ((eights [0#64, vk, vv, vs]).map b8), .blk g3 30 [(b64 (0#64)), (b64 vk), (b64 vv), (b64 vs)], .blk g2 50 ((List.replicate 32 0#8).map b8), .blk g1 43 [(.bool d), (.int .i64 (i64 vk)), (.int .i64 (i64 vv)), (.int .i64 (i64 vs))]] ⟨by decide, rfl⟩ ?_
  refine T_seq ?_
  refine Tsr hF rfl ?_
  refine lm rfl rfl rfl rfl rfl ?_
  refine lo rfl (pr_cmp (bo := .lss) (nc_lt (a := j) (b := 32)) rfl rfl rfl rfl) rfl rfl ?_
  refine L_nil ?_
  refine T_cond (decide (j < 32)) rfl (fun hc_15 => ?_) (fun hc_15 => ?_)
  ·
   have hc_15 := of_decide_eq_true hc_15
   refine T_skip ?_
   refine T_seq ?_
   refine T_block ?_
   refine T_reg hF rfl ?_
   refine lm rfl rfl rfl rfl rfl ?_
   refine lm rfl rfl rfl rfl rfl ?_
   refine lm rfl rfl rfl rfl rfl ?_
   refine lo rfl (pr_ixs1 (j := j) (src_none (src_row 1 rfl)) sd Try.underlying23 kr rfl rfl rfl) rfl rfl ?_
   refine lq rfl (ld_src (m := j) (src_row 1 rfl) (get8 sd) Try.underlying5 rfl rfl rfl) rfl rfl ?_
   refine lo rfl (pr_ixa (j := j) (m' := j) sd (by omega) Try.underlying50 (z := 1) kr rfl rfl rfl) rfl rfl ?_
   refine L_op rfl (op_store (vs := [(b8 (ath (eights [1#64, 0#64, 0#64, 0#64]) j))]) (cs' := ((List.set (cpd (eights [1#64, 0#64, 0#64, 0#64]) j) j (ath (eights [1#64, 0#64, 0#64, 0#64]) j)).map b8)) 0 rfl rfl kr (one_one rfl) (stl sd) (splice_map (f := b8) sd) rfl rfl rfl rfl ?_)
   refine L_nil ?_
   refine T_reg hF rfl ?_
   refine lm rfl rfl rfl rfl rfl ?_
   refine lo rfl (pr_add (na_i64 (a := j) (b := 1) sd) rfl rfl rfl) rfl rfl ?_
   refine la rfl rfl rfl rfl rfl ?_
   refine L_nil ?_
   refine T_as 0 _ (.blk g14 50 ((cpd (eights [1#64, 0#64, 0#64, 0#64]) (j + 1)).map b8)) rfl (by rw [cpd_set _ j hel (by omega)]) ?_
   exact T_again (j + 1) (by first | trivial | ((try dsimp only); first | omega | (refine ⟨?_, ?_⟩ <;> omega) | (refine ⟨?_, ?_, ?_⟩ <;> omega) | (simp; done) | (simp; omega))) (by first | trivial | ((try dsimp only); first | omega | (refine ⟨?_, ?_⟩ <;> omega) | (refine ⟨?_, ?_, ?_⟩ <;> omega) | (simp; done) | (simp; omega))) (sc rfl (sc rfl (sc rfl (sc rfl sn)))) [0, 1, 2, 3, 4, 5, 6] ⟨by decide, rfl⟩
  ·
   have hc_15 := of_decide_eq_false hc_15
   refine T_exit rfl ?_
   obtain rfl : 32 = j := by omega
   have hel2 := cpd_all (eights [1#64, 0#64, 0#64, 0#64]) hel
   refine Tsr hF rfl ?_
   refine lq rfl (ld_agg (ds := ((cpd (eights [1#64, 0#64, 0#64, 0#64]) 32).map b8)) 0 rfl agg_all Try.underlying50 rfl (fwz (n := 32) kr sd) rfl rfl) rfl rfl ?_
   refine L_op rfl (op_sto (n := 32) (vs := ((cpd (eights [1#64, 0#64, 0#64, 0#64]) 32).map b8)) 5 rfl rfl kr (all8_one _) kr sd rfl rfl rfl rfl ?_)
   refine L_nil ?_
   refine T_ret ?_
   refine T_as 0 _ (.blk g2 50 ((rpk (Rc.mk d vk vv vs)).map b8)) rfl (by first | (rw [rpk_t (by assumption), hel2]) | (rw [rpk_f (by assumption), hel2])) ?_
   exact T_fin () (by first | trivial | omega | (simp; done)) (resb 0 rfl rfl rfl Try.underlying50 rfl (fwz (n := 32) kr sd)) [] ⟨by decide, rfl⟩ rfl
 ·
  refine T_skip ?_
  refine Tsr hF rfl ?_
  refine L_op rfl (op_alloc (z := .agg ((List.replicate 32 0#8).map b8).toArray) (zs := ((List.replicate 32 0#8).map b8)) kr rfl rfl rfl rfl (fun g16 => ?_))
  refine L_nil ?_
  refine T_seq ?_
  refine Tsr hF rfl ?_
  refine la rfl rfl rfl rfl rfl ?_
  refine L_nil ?_
  refine T_block ?_
  refine T_as 0 _ (.blk g16 50 ((cpd (eights [0#64, vk, vv, vs]) 0).map b8)) rfl (rfl) ?_
  refine T_loop (T := Nat) (fun j => j ≤ 32) (fun j => [(2, (.pointer (some ⟨g2, 0, none⟩))), (3, (.slice B6 (8 * 4) d7)), (4, (.pointer (some ⟨g16, 0, none⟩))), (5, (.int .i64 ((j : Nat) : Int)))]) (fun j => [.blk g16 50 ((cpd (eights [0#64, vk, vv, vs]) j).map b8), .row (.slice B6 (8 * 4) d7) 5 1 (8 * 4) ((eights [0#64, vk, vv, vs]).map b8), .blk g3 30 [(b64 (0#64)), (b64 vk), (b64 vv), (b64 vs)], .blk g2 50 ((List.replicate 32 0#8).map b8), .blk g1 43 [(.bool d), (.int .i64 (i64 vk)), (.int .i64 (i64 vv)), (.int .i64 (i64 vs))]]) (fun j => 32 - j) 0 (by omega) (sc rfl (sc rfl (sc rfl (sc rfl sn)))) [0, 1, 2, 3, 4] ⟨by decide, rfl⟩ ?_
  rintro j hp
  have hp : j ≤ 32 := hp
  have hel : ((eights [0#64, vk, vv, vs])).length = 32 := by rw [eights_len]; rfl
  have hcp := cpd_len (eights [0#64, vk, vv, vs]) j hel hp
  refine T_re [(2, (.pointer (some ⟨g2, 0, none⟩))), (3, (.slice B6 (8 * 4) d7)), (4, (.pointer (some ⟨g16, 0, none⟩))), (5, (.int .i64 ((j : Nat) : Int)))] (sc rfl (sc rfl (sc rfl (sc rfl sn)))) ?_
  refine T_he [0, 1, 2, 3, 4] [.blk g16 50 ((cpd (eights [0#64, vk, vv, vs]) j).map b8), .row (.slice B6 (8 * 4) d7) 5 1 (8 * 4) ((eights [0#64, vk, vv, vs]).map b8), .blk g3 30 [(b64 (0#64)), (b64 vk), (b64 vv), (b64 vs)], .blk g2 50 ((List.replicate 32 0#8).map b8), .blk g1 43 [(.bool d), (.int .i64 (i64 vk)), (.int .i64 (i64 vv)), (.int .i64 (i64 vs))]] ⟨by decide, rfl⟩ ?_
  refine T_seq ?_
  refine Tsr hF rfl ?_
  refine lm rfl rfl rfl rfl rfl ?_
  refine lo rfl (pr_cmp (bo := .lss) (nc_lt (a := j) (b := 32)) rfl rfl rfl rfl) rfl rfl ?_
  refine L_nil ?_
  refine T_cond (decide (j < 32)) rfl (fun hc_17 => ?_) (fun hc_17 => ?_)
  ·
   have hc_17 := of_decide_eq_true hc_17
   refine T_skip ?_
   refine T_seq ?_
   refine T_block ?_
   refine T_reg hF rfl ?_
   refine lm rfl rfl rfl rfl rfl ?_
   refine lm rfl rfl rfl rfl rfl ?_
   refine lm rfl rfl rfl rfl rfl ?_
   refine lo rfl (pr_ixs1 (j := j) (src_none (src_row 1 rfl)) sd Try.underlying23 kr rfl rfl rfl) rfl rfl ?_
   refine lq rfl (ld_src (m := j) (src_row 1 rfl) (get8 sd) Try.underlying5 rfl rfl rfl) rfl rfl ?_
   refine lo rfl (pr_ixa (j := j) (m' := j) sd (by omega) Try.underlying50 (z := 1) kr rfl rfl rfl) rfl rfl ?_
   refine L_op rfl (op_store (vs := [(b8 (ath (eights [0#64, vk, vv, vs]) j))]) (cs' := ((List.set (cpd (eights [0#64, vk, vv, vs]) j) j (ath (eights [0#64, vk, vv, vs]) j)).map b8)) 0 rfl rfl kr (one_one rfl) (stl sd) (splice_map (f := b8) sd) rfl rfl rfl rfl ?_)
   refine L_nil ?_
   refine T_reg hF rfl ?_
   refine lm rfl rfl rfl rfl rfl ?_
   refine lo rfl (pr_add (na_i64 (a := j) (b := 1) sd) rfl rfl rfl) rfl rfl ?_
   refine la rfl rfl rfl rfl rfl ?_
   refine L_nil ?_
   refine T_as 0 _ (.blk g16 50 ((cpd (eights [0#64, vk, vv, vs]) (j + 1)).map b8)) rfl (by rw [cpd_set _ j hel (by omega)]) ?_
   exact T_again (j + 1) (by first | trivial | ((try dsimp only); first | omega | (refine ⟨?_, ?_⟩ <;> omega) | (refine ⟨?_, ?_, ?_⟩ <;> omega) | (simp; done) | (simp; omega))) (by first | trivial | ((try dsimp only); first | omega | (refine ⟨?_, ?_⟩ <;> omega) | (refine ⟨?_, ?_, ?_⟩ <;> omega) | (simp; done) | (simp; omega))) (sc rfl (sc rfl (sc rfl (sc rfl sn)))) [0, 1, 2, 3, 4] ⟨by decide, rfl⟩
  ·
   have hc_17 := of_decide_eq_false hc_17
   refine T_exit rfl ?_
   obtain rfl : 32 = j := by omega
   have hel2 := cpd_all (eights [0#64, vk, vv, vs]) hel
   refine Tsr hF rfl ?_
   refine lq rfl (ld_agg (ds := ((cpd (eights [0#64, vk, vv, vs]) 32).map b8)) 0 rfl agg_all Try.underlying50 rfl (fwz (n := 32) kr sd) rfl rfl) rfl rfl ?_
   refine L_op rfl (op_sto (n := 32) (vs := ((cpd (eights [0#64, vk, vv, vs]) 32).map b8)) 3 rfl rfl kr (all8_one _) kr sd rfl rfl rfl rfl ?_)
   refine L_nil ?_
   refine T_ret ?_
   refine T_as 0 _ (.blk g2 50 ((rpk (Rc.mk d vk vv vs)).map b8)) rfl (by first | (rw [rpk_t (by assumption), hel2]) | (rw [rpk_f (by assumption), hel2])) ?_
   exact T_fin () (by first | trivial | omega | (simp; done)) (resb 0 rfl rfl rfl Try.underlying50 rfl (fwz (n := 32) kr sd)) [] ⟨by decide, rfl⟩ rfl
end Go.Proofs.Ytlplpmkdebemnaa
