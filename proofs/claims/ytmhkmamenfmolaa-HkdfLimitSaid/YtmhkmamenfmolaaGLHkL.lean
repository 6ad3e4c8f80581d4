/- HkdfLimit, walked by facts. -/
import Derived.Test.YtmhkmamenfmolaaGLHkA
import Derived.Test.YtmhkmamenfmolaaProg
import Derived.Test.YtmhkmamenfmolaaFwU
namespace Go.Proofs.Ytmhkmamenfmolaa
set_option linter.unusedVariables false
set_option linter.unusedSimpArgs false
set_option linter.unnecessarySimpa false
open Go.RowKit Bv Fw

set_option maxHeartbeats 4000000 in
theorem hkdfLimit_t_f  (w : World) (hO : HOK [] w)  : Calls Try.prog 12 [(.bool true)].toArray w (Ret (T := Unit) [] w (fun _ => True) (fun _ => (.bool true)) (fun _ => [])) := by
  have hF : Wid Fence.wide := wid_wide
  refine enter (c := _) Try.func12 rfl [] [(.bool true)] [] (by rw [Try.ntmps12]; rfl) (own_rds hO rfl) ?_
  rw [Try.ntmps12]
  refine T_re [(0, (.bool true))] (sc rfl sn) ?_
  refine T_he [] [] ⟨by decide, rfl⟩ ?_
  refine T_seq ?_
  refine T_reg hF rfl ?_
  refine L_op rfl (op_pr (pr_assign rfl rfl) rfl rfl ?_)
  refine L_nil ?_
  refine T_re [(0, (.bool true))] (sc rfl sn) ?_
  refine T_he [] [] ⟨by decide, rfl⟩ ?_
  refine T_seq ?_
  refine T_reg hF rfl ?_
  refine L_op rfl (op_pr (pr_assign rfl rfl) rfl rfl ?_)
  refine L_nil ?_
  refine T_re [(0, (.bool true)), (3, (.int .i64 ((8160 : Nat) : Int)))] (sc rfl (sc rfl sn)) ?_
  refine T_he [] [] ⟨by decide, rfl⟩ ?_
  refine T_seq ?_
  refine T_seq ?_
  refine T_reg hF rfl ?_
  refine L_op rfl (op_pr (pr_move rfl rfl) rfl rfl ?_)
  refine L_nil ?_
  refine T_re [(0, (.bool true)), (3, (.int .i64 ((8160 : Nat) : Int))), (8, (.bool true))] (sc rfl (sc rfl (sc rfl sn))) ?_
  refine T_he [] [] ⟨by decide, rfl⟩ ?_
  refine T_cond_t rfl ?_
  refine T_reg hF rfl ?_
  refine L_op rfl (op_pr (pr_move rfl rfl) rfl rfl ?_)
  refine L_op rfl (op_pr (pr_add (na_i64 (a := 8160) (b := 1) sd) rfl rfl rfl) rfl rfl ?_)
  refine L_op rfl (op_pr (pr_assign rfl rfl) rfl rfl ?_)
  refine L_nil ?_
  refine T_re [(0, (.bool true)), (3, (.int .i64 ((8161 : Nat) : Int)))] (sc rfl (sc rfl sn)) ?_
  refine T_he [] [] ⟨by decide, rfl⟩ ?_
  refine T_seq ?_
  refine T_reg hF rfl ?_
  refine L_op rfl (op_pr (pr_build (qs := [(0, (b8 (3#8)))]) (v := .agg ([3#8, 0#8, 0#8, 0#8, 0#8, 0#8, 0#8, 0#8, 0#8, 0#8, 0#8, 0#8, 0#8, 0#8, 0#8, 0#8, 0#8, 0#8, 0#8, 0#8, 0#8, 0#8, 0#8, 0#8, 0#8, 0#8, 0#8, 0#8, 0#8, 0#8, 0#8, 0#8].map b8).toArray) (fun _ => by kernel_rfl) rfl rfl) rfl rfl ?_)
  refine L_op rfl (op_pr (pr_move rfl rfl) rfl rfl ?_)
  refine L_op rfl (op_call0 (vs := [(.agg ([3#8, 0#8, 0#8, 0#8, 0#8, 0#8, 0#8, 0#8, 0#8, 0#8, 0#8, 0#8, 0#8, 0#8, 0#8, 0#8, 0#8, 0#8, 0#8, 0#8, 0#8, 0#8, 0#8, 0#8, 0#8, 0#8, 0#8, 0#8, 0#8, 0#8, 0#8, 0#8].map b8).toArray), (.slice none 0 0), (.int .i64 ((8161 : Nat) : Int))]) (cap := []) (fun w hw => expand_hi_f [3#8, 0#8, 0#8, 0#8, 0#8, 0#8, 0#8, 0#8, 0#8, 0#8, 0#8, 0#8, 0#8, 0#8, 0#8, 0#8, 0#8, 0#8, 0#8, 0#8, 0#8, 0#8, 0#8, 0#8, 0#8, 0#8, 0#8, 0#8, 0#8, 0#8, 0#8, 0#8] [] none 0 0 ((8161 : Nat) : Int) w (hok_cons ((src_nil 1) w hw) (hok_nil w)) (by first | assumption | omega | (simp; done) | (simp; omega)) (by first | assumption | omega | (simp; done) | (simp; omega)) sd sd) (enters_of Try.func30 (by kernel_rfl) rfl) rfl rfl rfl rfl rfl (fun t1 q2 => ?_))
  refine L_op rfl (op_pr (pr_move rfl rfl) rfl rfl ?_)
  refine L_op rfl (op_pr (pr_ext (vs := [(.slice none 0 0), (.int .i64 ((1 : Nat) : Int))]) rfl rfl rfl) rfl rfl ?_)
  refine L_op rfl (op_pr (pr_ext (vs := [(.slice none 0 0), (.int .i64 ((1 : Nat) : Int))]) rfl rfl rfl) rfl rfl ?_)
  refine L_op rfl (op_pr (pr_assign rfl rfl) rfl rfl ?_)
  refine L_op rfl (op_pr (pr_assign rfl rfl) rfl rfl ?_)
  refine L_nil ?_
  refine T_re [(0, (.bool true)), (3, (.int .i64 ((8161 : Nat) : Int))), (4, (.slice none 0 0)), (5, (.int .i64 ((1 : Nat) : Int)))] (sc rfl (sc rfl (sc rfl (sc rfl sn)))) ?_
  refine T_he [] [] ⟨by decide, rfl⟩ ?_
  refine T_seq ?_
  refine T_reg hF rfl ?_
  refine L_op rfl (op_pr (pr_build (qs := [(0, (b8 (3#8)))]) (v := .agg ([3#8, 0#8, 0#8, 0#8, 0#8, 0#8, 0#8, 0#8, 0#8, 0#8, 0#8, 0#8, 0#8, 0#8, 0#8, 0#8, 0#8, 0#8, 0#8, 0#8, 0#8, 0#8, 0#8, 0#8, 0#8, 0#8, 0#8, 0#8, 0#8, 0#8, 0#8, 0#8].map b8).toArray) (fun _ => by kernel_rfl) rfl rfl) rfl rfl ?_)
  refine L_op rfl (op_call0 (vs := [(.agg ([3#8, 0#8, 0#8, 0#8, 0#8, 0#8, 0#8, 0#8, 0#8, 0#8, 0#8, 0#8, 0#8, 0#8, 0#8, 0#8, 0#8, 0#8, 0#8, 0#8, 0#8, 0#8, 0#8, 0#8, 0#8, 0#8, 0#8, 0#8, 0#8, 0#8, 0#8, 0#8].map b8).toArray), (.slice none 0 0), (.int .i64 ((0 : Nat) : Int))]) (cap := []) (fun w hw => expand_lo_f [3#8, 0#8, 0#8, 0#8, 0#8, 0#8, 0#8, 0#8, 0#8, 0#8, 0#8, 0#8, 0#8, 0#8, 0#8, 0#8, 0#8, 0#8, 0#8, 0#8, 0#8, 0#8, 0#8, 0#8, 0#8, 0#8, 0#8, 0#8, 0#8, 0#8, 0#8, 0#8] [] none 0 0 ((0 : Nat) : Int) w (hok_cons ((src_nil 1) w hw) (hok_nil w)) (by first | assumption | omega | (simp; done) | (simp; omega)) (by first | assumption | omega | (simp; done) | (simp; omega)) sd sd) (enters_of Try.func30 (by kernel_rfl) rfl) rfl rfl rfl rfl rfl (fun t3 q4 => ?_))
  refine L_op rfl (op_pr (pr_move rfl rfl) rfl rfl ?_)
  refine L_op rfl (op_pr (pr_ext (vs := [(.slice none 0 0), (.int .i64 ((1 : Nat) : Int))]) rfl rfl rfl) rfl rfl ?_)
  refine L_op rfl (op_pr (pr_ext (vs := [(.slice none 0 0), (.int .i64 ((1 : Nat) : Int))]) rfl rfl rfl) rfl rfl ?_)
  refine L_op rfl (op_pr (pr_assign rfl rfl) rfl rfl ?_)
  refine L_op rfl (op_pr (pr_assign rfl rfl) rfl rfl ?_)
  refine L_nil ?_
  refine T_re [(0, (.bool true)), (3, (.int .i64 ((8161 : Nat) : Int))), (4, (.slice none 0 0)), (5, (.int .i64 ((1 : Nat) : Int))), (6, (.slice none 0 0)), (7, (.int .i64 ((1 : Nat) : Int)))] (sc rfl (sc rfl (sc rfl (sc rfl (sc rfl (sc rfl sn)))))) ?_
  refine T_he [] [] ⟨by decide, rfl⟩ ?_
  refine T_seq ?_
  refine T_reg hF rfl ?_
  refine L_op rfl (op_call0 (vs := []) (cap := []) (fun w hw => awake4_f  w (hok_nil w) ) (enters_of Try.func29 (by kernel_rfl) rfl) rfl rfl rfl rfl rfl (fun t5 q6 => ?_))
  refine L_op rfl (op_pr (pr_move rfl rfl) rfl rfl ?_)
  refine L_op rfl (op_pr (pr_move rfl rfl) rfl rfl ?_)
  refine L_op rfl (op_pr (pr_cmp (bo := .eql) (nc_eq (a := 1) (b := 1)) rfl rfl rfl rfl) rfl rfl ?_)
  refine L_op rfl (op_pr (pr_move rfl rfl) rfl rfl ?_)
  refine L_op rfl (op_pr (pr_eqb (c := true) rfl Try.underlying4 rfl rfl rfl) rfl rfl ?_)
  refine L_op rfl (op_pr (pr_pick_t rfl rfl rfl) rfl rfl ?_)
  refine L_op rfl (op_pr (pr_move rfl rfl) rfl rfl ?_)
  refine L_op rfl (op_pr (pr_move rfl rfl) rfl rfl ?_)
  refine L_op rfl (op_pr (pr_move rfl rfl) rfl rfl ?_)
  refine L_op rfl (op_pr (pr_move rfl rfl) rfl rfl ?_)
  refine L_op rfl (op_pr (pr_len_sl Try.underlying24 rfl rfl) rfl rfl ?_)
  refine L_op rfl (op_pr (pr_cmp (bo := .eql) (nc_eq (a := 0) (b := 0)) rfl rfl rfl rfl) rfl rfl ?_)
  refine L_op rfl (op_pr (pr_pick_t rfl rfl rfl) rfl rfl ?_)
  refine L_op rfl (op_pr (pr_move rfl rfl) rfl rfl ?_)
  refine L_skip rfl rfl rfl ?_
  refine L_skip rfl rfl rfl ?_
  refine L_skip rfl rfl rfl ?_
  refine L_skip rfl rfl rfl ?_
  refine L_skip rfl rfl rfl ?_
  refine L_skip rfl rfl rfl ?_
  refine L_skip rfl rfl rfl ?_
  refine L_skip rfl rfl rfl ?_
  refine L_op rfl (op_pr (pr_pick_t rfl rfl rfl) rfl rfl ?_)
  refine L_op rfl (op_pr (pr_pick_t rfl rfl rfl) rfl rfl ?_)
  refine L_op rfl (op_pr (pr_move rfl rfl) rfl rfl ?_)
  refine L_op rfl (op_pr (pr_move rfl rfl) rfl rfl ?_)
  refine L_op rfl (op_pr (pr_cmp (bo := .eql) (nc_eq (a := 1) (b := 1)) rfl rfl rfl rfl) rfl rfl ?_)
  refine L_op rfl (op_pr (pr_pick_t rfl rfl rfl) rfl rfl ?_)
  refine L_op rfl (op_pr (pr_move rfl rfl) rfl rfl ?_)
  refine L_op rfl (op_pr (pr_move rfl rfl) rfl rfl ?_)
  refine L_op rfl (op_pr (pr_len_sl Try.underlying24 rfl rfl) rfl rfl ?_)
  refine L_op rfl (op_pr (pr_cmp (bo := .eql) (nc_eq (a := 0) (b := 0)) rfl rfl rfl rfl) rfl rfl ?_)
  refine L_op rfl (op_pr (pr_pick_t rfl rfl rfl) rfl rfl ?_)
  refine L_op rfl (op_pr (pr_assign rfl rfl) rfl rfl ?_)
  refine L_nil ?_
  refine T_re [(2, (.bool (0 == 0)))] (sc rfl sn) ?_
  refine T_he [] [] ⟨by decide, rfl⟩ ?_
  refine T_ret ?_
  refine T_slot 2 (.bool (0 == 0)) (.bool true) rfl (by first | rfl | (simp; done)) ?_
  exact T_fin () (by first | trivial | omega | (simp; done)) (res1 rfl rfl) [] ⟨by decide, rfl⟩ rfl
set_option maxHeartbeats 4000000 in
theorem hkdfLimit_f_f  (w : World) (hO : HOK [] w)  : Calls Try.prog 12 [(.bool false)].toArray w (Ret (T := Unit) [] w (fun _ => True) (fun _ => (.bool true)) (fun _ => [])) := by
  have hkl := hkdf_len [3#8, 0#8, 0#8, 0#8, 0#8, 0#8, 0#8, 0#8, 0#8, 0#8, 0#8, 0#8, 0#8, 0#8, 0#8, 0#8, 0#8, 0#8, 0#8, 0#8, 0#8, 0#8, 0#8, 0#8, 0#8, 0#8, 0#8, 0#8, 0#8, 0#8, 0#8, 0#8] [] 8160 (by omega)
  have hF : Wid Fence.wide := wid_wide
  refine enter (c := _) Try.func12 rfl [] [(.bool false)] [] (by rw [Try.ntmps12]; rfl) (own_rds hO rfl) ?_
  rw [Try.ntmps12]
  refine T_re [(0, (.bool false))] (sc rfl sn) ?_
  refine T_he [] [] ⟨by decide, rfl⟩ ?_
  refine T_seq ?_
  refine T_reg hF rfl ?_
  refine L_op rfl (op_pr (pr_assign rfl rfl) rfl rfl ?_)
  refine L_nil ?_
  refine T_re [(0, (.bool false))] (sc rfl sn) ?_
  refine T_he [] [] ⟨by decide, rfl⟩ ?_
  refine T_seq ?_
  refine T_reg hF rfl ?_
  refine L_op rfl (op_pr (pr_assign rfl rfl) rfl rfl ?_)
  refine L_nil ?_
  refine T_re [(0, (.bool false)), (3, (.int .i64 ((8160 : Nat) : Int)))] (sc rfl (sc rfl sn)) ?_
  refine T_he [] [] ⟨by decide, rfl⟩ ?_
  refine T_seq ?_
  refine T_seq ?_
  refine T_reg hF rfl ?_
  refine L_op rfl (op_pr (pr_move rfl rfl) rfl rfl ?_)
  refine L_nil ?_
  refine T_re [(0, (.bool false)), (3, (.int .i64 ((8160 : Nat) : Int))), (8, (.bool false))] (sc rfl (sc rfl (sc rfl sn))) ?_
  refine T_he [] [] ⟨by decide, rfl⟩ ?_
  refine T_cond_f rfl ?_
  refine T_skip ?_
  refine T_seq ?_
  refine T_reg hF rfl ?_
  refine L_op rfl (op_pr (pr_build (qs := [(0, (b8 (3#8)))]) (v := .agg ([3#8, 0#8, 0#8, 0#8, 0#8, 0#8, 0#8, 0#8, 0#8, 0#8, 0#8, 0#8, 0#8, 0#8, 0#8, 0#8, 0#8, 0#8, 0#8, 0#8, 0#8, 0#8, 0#8, 0#8, 0#8, 0#8, 0#8, 0#8, 0#8, 0#8, 0#8, 0#8].map b8).toArray) (fun _ => by kernel_rfl) rfl rfl) rfl rfl ?_)
  refine L_op rfl (op_pr (pr_move rfl rfl) rfl rfl ?_)
  refine L_op rfl (op_call0 (vs := [(.agg ([3#8, 0#8, 0#8, 0#8, 0#8, 0#8, 0#8, 0#8, 0#8, 0#8, 0#8, 0#8, 0#8, 0#8, 0#8, 0#8, 0#8, 0#8, 0#8, 0#8, 0#8, 0#8, 0#8, 0#8, 0#8, 0#8, 0#8, 0#8, 0#8, 0#8, 0#8, 0#8].map b8).toArray), (.slice none 0 0), (.int .i64 ((8160 : Nat) : Int))]) (cap := []) (fun w hw => expand_f [3#8, 0#8, 0#8, 0#8, 0#8, 0#8, 0#8, 0#8, 0#8, 0#8, 0#8, 0#8, 0#8, 0#8, 0#8, 0#8, 0#8, 0#8, 0#8, 0#8, 0#8, 0#8, 0#8, 0#8, 0#8, 0#8, 0#8, 0#8, 0#8, 0#8, 0#8, 0#8] [] none 0 0 8160 w (hok_cons ((src_nil 1) w hw) (hok_nil w)) (by first | assumption | omega | (simp; done) | (simp; omega)) (by first | assumption | omega | (simp; done) | (simp; omega)) sd sd sd) (enters_of Try.func30 (by kernel_rfl) rfl) rfl rfl rfl rfl rfl (fun t1 q2 => ?_))
  obtain ⟨B3, eB3⟩ : ∃ x, x = t1 := ⟨_, rfl⟩
  subst eB3
  refine L_op rfl (op_pr (pr_move rfl rfl) rfl rfl ?_)
  refine L_op rfl (op_pr (pr_ext (vs := [(.slice B3 8160 8160), (.int .i64 ((0 : Nat) : Int))]) rfl rfl rfl) rfl rfl ?_)
  refine L_op rfl (op_pr (pr_ext (vs := [(.slice B3 8160 8160), (.int .i64 ((0 : Nat) : Int))]) rfl rfl rfl) rfl rfl ?_)
  refine L_op rfl (op_pr (pr_assign rfl rfl) rfl rfl ?_)
  refine L_op rfl (op_pr (pr_assign rfl rfl) rfl rfl ?_)
  refine L_nil ?_
  refine T_re [(0, (.bool false)), (3, (.int .i64 ((8160 : Nat) : Int))), (4, (.slice B3 8160 8160)), (5, (.int .i64 ((0 : Nat) : Int)))] (sc rfl (sc rfl (sc rfl (sc rfl sn)))) ?_
  refine T_he [0] [.old B3 1 8160 8160 ((hkdf [3#8, 0#8, 0#8, 0#8, 0#8, 0#8, 0#8, 0#8, 0#8, 0#8, 0#8, 0#8, 0#8, 0#8, 0#8, 0#8, 0#8, 0#8, 0#8, 0#8, 0#8, 0#8, 0#8, 0#8, 0#8, 0#8, 0#8, 0#8, 0#8, 0#8, 0#8, 0#8] [] 8160).map b8)] ⟨by decide, rfl⟩ ?_
  refine T_seq ?_
  refine T_reg hF rfl ?_
  refine L_op rfl (op_pr (pr_build (qs := [(0, (b8 (3#8)))]) (v := .agg ([3#8, 0#8, 0#8, 0#8, 0#8, 0#8, 0#8, 0#8, 0#8, 0#8, 0#8, 0#8, 0#8, 0#8, 0#8, 0#8, 0#8, 0#8, 0#8, 0#8, 0#8, 0#8, 0#8, 0#8, 0#8, 0#8, 0#8, 0#8, 0#8, 0#8, 0#8, 0#8].map b8).toArray) (fun _ => by kernel_rfl) rfl rfl) rfl rfl ?_)
  refine L_op rfl (op_call0 (vs := [(.agg ([3#8, 0#8, 0#8, 0#8, 0#8, 0#8, 0#8, 0#8, 0#8, 0#8, 0#8, 0#8, 0#8, 0#8, 0#8, 0#8, 0#8, 0#8, 0#8, 0#8, 0#8, 0#8, 0#8, 0#8, 0#8, 0#8, 0#8, 0#8, 0#8, 0#8, 0#8, 0#8].map b8).toArray), (.slice none 0 0), (.int .i64 ((0 : Nat) : Int))]) (cap := []) (fun w hw => expand_lo_f [3#8, 0#8, 0#8, 0#8, 0#8, 0#8, 0#8, 0#8, 0#8, 0#8, 0#8, 0#8, 0#8, 0#8, 0#8, 0#8, 0#8, 0#8, 0#8, 0#8, 0#8, 0#8, 0#8, 0#8, 0#8, 0#8, 0#8, 0#8, 0#8, 0#8, 0#8, 0#8] [] none 0 0 ((0 : Nat) : Int) w (hok_cons ((src_nil 1) w hw) (hok_nil w)) (by first | assumption | omega | (simp; done) | (simp; omega)) (by first | assumption | omega | (simp; done) | (simp; omega)) sd sd) (enters_of Try.func30 (by kernel_rfl) rfl) rfl rfl rfl rfl rfl (fun t4 q5 => ?_))
  refine L_op rfl (op_pr (pr_move rfl rfl) rfl rfl ?_)
  refine L_op rfl (op_pr (pr_ext (vs := [(.slice none 0 0), (.int .i64 ((1 : Nat) : Int))]) rfl rfl rfl) rfl rfl ?_)
  refine L_op rfl (op_pr (pr_ext (vs := [(.slice none 0 0), (.int .i64 ((1 : Nat) : Int))]) rfl rfl rfl) rfl rfl ?_)
  refine L_op rfl (op_pr (pr_assign rfl rfl) rfl rfl ?_)
  refine L_op rfl (op_pr (pr_assign rfl rfl) rfl rfl ?_)
  refine L_nil ?_
  refine T_re [(0, (.bool false)), (3, (.int .i64 ((8160 : Nat) : Int))), (4, (.slice B3 8160 8160)), (5, (.int .i64 ((0 : Nat) : Int))), (6, (.slice none 0 0)), (7, (.int .i64 ((1 : Nat) : Int)))] (sc rfl (sc rfl (sc rfl (sc rfl (sc rfl (sc rfl sn)))))) ?_
  refine T_he [0] [.old B3 1 8160 8160 ((hkdf [3#8, 0#8, 0#8, 0#8, 0#8, 0#8, 0#8, 0#8, 0#8, 0#8, 0#8, 0#8, 0#8, 0#8, 0#8, 0#8, 0#8, 0#8, 0#8, 0#8, 0#8, 0#8, 0#8, 0#8, 0#8, 0#8, 0#8, 0#8, 0#8, 0#8, 0#8, 0#8] [] 8160).map b8)] ⟨by decide, rfl⟩ ?_
  refine T_seq ?_
  refine T_reg hF rfl ?_
  refine L_op rfl (op_call0 (vs := []) (cap := []) (fun w hw => awake4_f  w (hok_nil w) ) (enters_of Try.func29 (by kernel_rfl) rfl) rfl rfl rfl rfl rfl (fun t6 q7 => ?_))
  refine L_op rfl (op_pr (pr_move rfl rfl) rfl rfl ?_)
  refine L_op rfl (op_pr (pr_move rfl rfl) rfl rfl ?_)
  refine L_op rfl (op_pr (pr_cmp (bo := .eql) (nc_eq (a := 0) (b := 1)) rfl rfl rfl rfl) rfl rfl ?_)
  refine L_op rfl (op_pr (pr_move rfl rfl) rfl rfl ?_)
  refine L_op rfl (op_pr (pr_eqb (c := true) rfl Try.underlying4 rfl rfl rfl) rfl rfl ?_)
  refine L_op rfl (op_pr (pr_pick_t rfl rfl rfl) rfl rfl ?_)
  refine L_op rfl (op_pr (pr_move rfl rfl) rfl rfl ?_)
  refine L_op rfl (op_pr (pr_move rfl rfl) rfl rfl ?_)
  refine L_op rfl (op_pr (pr_move rfl rfl) rfl rfl ?_)
  refine L_skip rfl rfl rfl ?_
  refine L_skip rfl rfl rfl ?_
  refine L_skip rfl rfl rfl ?_
  refine L_op rfl (op_pr (pr_pick_f rfl rfl rfl) rfl rfl ?_)
  refine L_op rfl (op_pr (pr_move rfl rfl) rfl rfl ?_)
  refine L_op rfl (op_pr (pr_move rfl rfl) rfl rfl ?_)
  refine L_op rfl (op_pr (pr_un (v := .bool true) rfl rfl rfl) rfl rfl ?_)
  refine L_op rfl (op_pr (pr_move rfl rfl) rfl rfl ?_)
  refine L_op rfl (op_pr (pr_move rfl rfl) rfl rfl ?_)
  refine L_op rfl (op_pr (pr_len_sl Try.underlying24 rfl rfl) rfl rfl ?_)
  refine L_op rfl (op_pr (pr_move rfl rfl) rfl rfl ?_)
  refine L_op rfl (op_pr (pr_cmp (bo := .eql) (nc_eq (a := 8160) (b := 8160)) rfl rfl rfl rfl) rfl rfl ?_)
  refine L_op rfl (op_pr (pr_pick_t rfl rfl rfl) rfl rfl ?_)
  refine L_op rfl (op_pr (pr_pick_f rfl rfl rfl) rfl rfl ?_)
  refine L_op rfl (op_pr (pr_pick_t rfl rfl rfl) rfl rfl ?_)
  refine L_op rfl (op_pr (pr_move rfl rfl) rfl rfl ?_)
  refine L_op rfl (op_pr (pr_move rfl rfl) rfl rfl ?_)
  refine L_op rfl (op_pr (pr_cmp (bo := .eql) (nc_eq (a := 1) (b := 1)) rfl rfl rfl rfl) rfl rfl ?_)
  refine L_op rfl (op_pr (pr_pick_t rfl rfl rfl) rfl rfl ?_)
  refine L_op rfl (op_pr (pr_move rfl rfl) rfl rfl ?_)
  refine L_op rfl (op_pr (pr_move rfl rfl) rfl rfl ?_)
  refine L_op rfl (op_pr (pr_len_sl Try.underlying24 rfl rfl) rfl rfl ?_)
  refine L_op rfl (op_pr (pr_cmp (bo := .eql) (nc_eq (a := 0) (b := 0)) rfl rfl rfl rfl) rfl rfl ?_)
  refine L_op rfl (op_pr (pr_pick_t rfl rfl rfl) rfl rfl ?_)
  refine L_op rfl (op_pr (pr_assign rfl rfl) rfl rfl ?_)
  refine L_nil ?_
  refine T_re [(2, (.bool (0 == 0)))] (sc rfl sn) ?_
  refine T_he [0] [.old B3 1 8160 8160 ((hkdf [3#8, 0#8, 0#8, 0#8, 0#8, 0#8, 0#8, 0#8, 0#8, 0#8, 0#8, 0#8, 0#8, 0#8, 0#8, 0#8, 0#8, 0#8, 0#8, 0#8, 0#8, 0#8, 0#8, 0#8, 0#8, 0#8, 0#8, 0#8, 0#8, 0#8, 0#8, 0#8] [] 8160).map b8)] ⟨by decide, rfl⟩ ?_
  refine T_ret ?_
  refine T_slot 2 (.bool (0 == 0)) (.bool true) rfl (by first | rfl | (simp; done)) ?_
  exact T_fin () (by first | trivial | omega | (simp; done)) (res1 rfl rfl) [] ⟨by decide, rfl⟩ rfl
theorem hkdfLimit_f (b : Bool) (w : World) (hO : HOK [] w) : Calls Try.prog 12 [.bool b].toArray w (Ret (T := Unit) [] w (fun _ => True) (fun _ => (.bool true)) (fun _ => [])) := by
  cases b
  · exact hkdfLimit_f_f w hO
  · exact hkdfLimit_t_f w hO

end Go.Proofs.Ytmhkmamenfmolaa
