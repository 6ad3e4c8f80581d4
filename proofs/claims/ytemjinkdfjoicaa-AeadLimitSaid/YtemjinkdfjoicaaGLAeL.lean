/- AeadLimit, walked by facts. -/
import Derived.Test.YtemjinkdfjoicaaGLAeA
import Derived.Test.YtemjinkdfjoicaaProg
import Derived.Test.YtemjinkdfjoicaaFwU
namespace Go.Proofs.Ytemjinkdfjoicaa
set_option linter.unusedVariables false
set_option linter.unusedSimpArgs false
set_option linter.unnecessarySimpa false
open Go.RowKit Bv Fw

set_option maxRecDepth 100000 in
set_option maxHeartbeats 4000000 in
theorem limit_mb_f (nn : Nat) (w : World) (hO : HOK [] w) (hnn : nn = 65537) : Calls Try.prog 12 [(.bool true), (.bool true)].toArray w (Ret (T := Unit) [] w (fun _ => True) (fun _ => (.bool true)) (fun _ => [])) := by
 have hsl : (aseal [0#8, 0#8, 0#8, 0#8, 0#8, 0#8, 0#8, 0#8, 0#8, 0#8, 0#8, 0#8, 0#8, 0#8, 0#8, 0#8, 0#8, 0#8, 0#8, 0#8, 0#8, 0#8, 0#8, 0#8, 0#8, 0#8, 0#8, 0#8, 0#8, 0#8, 0#8, 0#8] [0#8, 0#8, 0#8, 0#8, 0#8, 0#8, 0#8, 0#8, 0#8, 0#8, 0#8, 0#8] (List.replicate nn 0#8) []).length = 0 + 16 := by rw [aseal_len]; rfl
 have hsl2 : (aseal [0#8, 0#8, 0#8, 0#8, 0#8, 0#8, 0#8, 0#8, 0#8, 0#8, 0#8, 0#8, 0#8, 0#8, 0#8, 0#8, 0#8, 0#8, 0#8, 0#8, 0#8, 0#8, 0#8, 0#8, 0#8, 0#8, 0#8, 0#8, 0#8, 0#8, 0#8, 0#8] [0#8, 0#8, 0#8, 0#8, 0#8, 0#8, 0#8, 0#8, 0#8, 0#8, 0#8, 0#8] [] (List.replicate nn 0#8)).length = nn + 16 := by rw [aseal_len, List.length_replicate]
 have hF : Wid Fence.wide := wid_wide
 refine enter (c := _) Try.func12 rfl [] [(.bool true), (.bool true)] [] (by rw [Try.ntmps12]; rfl) (own_rds hO rfl) ?_
 rw [Try.ntmps12]
 refine T_re [(0, (.bool true)), (1, (.bool true))] (sc rfl (sc rfl sn)) ?_
 refine T_he [] [] ⟨by decide, rfl⟩ ?_
 refine Tsr hF rfl ?_
 refine la rfl rfl rfl rfl rfl ?_
 refine L_nil ?_
 refine Tsr hF rfl ?_
 refine la rfl rfl rfl rfl rfl ?_
 refine L_nil ?_
 refine T_seq ?_
 refine Tsr hF rfl ?_
 refine lm rfl rfl rfl rfl rfl ?_
 refine L_nil ?_
 refine T_cond_t rfl ?_
 refine T_reg hF rfl ?_
 refine lm rfl rfl rfl rfl rfl ?_
 refine lo rfl (pr_add (na_i64 (a := 65536) (b := 1) sd) rfl rfl rfl) rfl rfl ?_
 refine T_slot 16 (.int .i64 ((65537 : Nat) : Int)) (.int .i64 ((nn : Nat) : Int)) rfl (by rw [hnn]) ?_
 refine la rfl rfl rfl rfl rfl ?_
 refine L_nil ?_
 refine Tsr hF rfl ?_
 refine lm rfl rfl rfl rfl rfl ?_
 refine L_op rfl (op_make (z := (b8 (0#8))) (n := nn) (c := nn) Try.underlying25 (bytes := 1) kr rfl sd sd sd rfl rfl rfl rfl rfl (fun g1 => ?_))
 refine T_as 0 _ (.blk g1 5 ((List.replicate nn 0#8).map b8)) rfl (by rw [List.map_replicate]) ?_
 refine la rfl rfl rfl rfl rfl ?_
 refine la rfl rfl rfl rfl rfl ?_
 refine L_nil ?_
 refine T_seq ?_
 refine Tsr hF rfl ?_
 refine lm rfl rfl rfl rfl rfl ?_
 refine L_nil ?_
 refine T_cond_t rfl ?_
 refine T_regD [.blk g1 5 ((List.replicate nn 0#8).map b8)] 4 4 #[false, false, false, false] hF kr kr ?_
 refine D_pure (i := 0) [0] rfl kr rfl (pr_move rfl rfl) (.inr rfl) rfl rfl ?_
 refine D_pure (i := 2) [0] rfl kr rfl (pr_assign rfl rfl) (.inr rfl) rfl rfl ?_
 refine D_one 1 _ rfl kr rfl (op_make (z := (b8 (0#8))) (n := nn) (c := nn) Try.underlying25 (bytes := 1) kr rfl sd sd sd rfl rfl rfl rfl rfl (fun g2 => ?_))
 refine T_as 0 _ (.blk g2 5 ((List.replicate nn 0#8).map b8)) rfl (by rw [List.map_replicate]) ?_
 refine D_on [1] rfl ?_
 refine D_pure (i := 3) [1] rfl kr rfl (pr_assign rfl rfl) (.inr rfl) rfl rfl ?_
 refine D_done kr ?_
 refine Tsr hF rfl ?_
 refine lo rfl (pr_build (qs := []) (v := .agg ([0#8, 0#8, 0#8, 0#8, 0#8, 0#8, 0#8, 0#8, 0#8, 0#8, 0#8, 0#8, 0#8, 0#8, 0#8, 0#8, 0#8, 0#8, 0#8, 0#8, 0#8, 0#8, 0#8, 0#8, 0#8, 0#8, 0#8, 0#8, 0#8, 0#8, 0#8, 0#8].map b8).toArray) (fun _ => by kernel_rfl) rfl rfl) rfl rfl ?_
 refine lo rfl (pr_build (qs := []) (v := .agg ([0#8, 0#8, 0#8, 0#8, 0#8, 0#8, 0#8, 0#8, 0#8, 0#8, 0#8, 0#8].map b8).toArray) (fun _ => by kernel_rfl) rfl rfl) rfl rfl ?_
 refine lm rfl rfl rfl rfl rfl ?_
 refine lm rfl rfl rfl rfl rfl ?_
 refine L_op rfl (op_cn (fun w hw => seal_la_f [0#8, 0#8, 0#8, 0#8, 0#8, 0#8, 0#8, 0#8, 0#8, 0#8, 0#8, 0#8, 0#8, 0#8, 0#8, 0#8, 0#8, 0#8, 0#8, 0#8, 0#8, 0#8, 0#8, 0#8, 0#8, 0#8, 0#8, 0#8, 0#8, 0#8, 0#8, 0#8] [0#8, 0#8, 0#8, 0#8, 0#8, 0#8, 0#8, 0#8, 0#8, 0#8, 0#8, 0#8] (List.replicate nn 0#8) [] (some ⟨g2, 0, none⟩) nn nn none 0 0 w (hok_cons ((src_full (z := 1) 0 rfl sd sd sd) w hw) (hok_cons ((src_nil 1) w hw) (hok_nil w))) (by first | assumption | exact sd) (by first | assumption | exact sd) (by first | assumption | exact sd) (by first | assumption | exact sd) sd) (enters_of Try.func24 kr rfl) rfl rfl rfl rfl rfl (fun t3 q4 => ?_))
 refine lm rfl rfl rfl rfl rfl ?_
 refine lo rfl (pr_ext (vs := [(.slice none 0 0), (.int .i64 ((5 : Nat) : Int))]) rfl rfl rfl) rfl rfl ?_
 refine lo rfl (pr_ext (vs := [(.slice none 0 0), (.int .i64 ((5 : Nat) : Int))]) rfl rfl rfl) rfl rfl ?_
 refine la rfl rfl rfl rfl rfl ?_
 refine la rfl rfl rfl rfl rfl ?_
 refine L_nil ?_
 refine Tsr hF rfl ?_
 refine lo rfl (pr_build (qs := []) (v := .agg ([0#8, 0#8, 0#8, 0#8, 0#8, 0#8, 0#8, 0#8, 0#8, 0#8, 0#8, 0#8, 0#8, 0#8, 0#8, 0#8, 0#8, 0#8, 0#8, 0#8, 0#8, 0#8, 0#8, 0#8, 0#8, 0#8, 0#8, 0#8, 0#8, 0#8, 0#8, 0#8].map b8).toArray) (fun _ => by kernel_rfl) rfl rfl) rfl rfl ?_
 refine lo rfl (pr_build (qs := []) (v := .agg ([0#8, 0#8, 0#8, 0#8, 0#8, 0#8, 0#8, 0#8, 0#8, 0#8, 0#8, 0#8].map b8).toArray) (fun _ => by kernel_rfl) rfl rfl) rfl rfl ?_
 refine lm rfl rfl rfl rfl rfl ?_
 refine lm rfl rfl rfl rfl rfl ?_
 refine lo rfl (pr_len_sl Try.underlying25 rfl rfl) rfl rfl ?_
 refine lo rfl (pr_add (na_i64 (a := 0) (b := 16) sd) rfl rfl rfl) rfl rfl ?_
 refine L_op rfl (op_make (z := (b8 (0#8))) (n := 16) (c := 16) Try.underlying25 (bytes := 1) kr rfl sd sd sd rfl rfl rfl rfl rfl (fun g5 => ?_))
 refine T_as 0 _ (.blk g5 5 ((List.replicate 16 0#8).map b8)) rfl (by rw [List.map_replicate]) ?_
 refine L_op rfl (op_cn (fun w hw => open_la_f [0#8, 0#8, 0#8, 0#8, 0#8, 0#8, 0#8, 0#8, 0#8, 0#8, 0#8, 0#8, 0#8, 0#8, 0#8, 0#8, 0#8, 0#8, 0#8, 0#8, 0#8, 0#8, 0#8, 0#8, 0#8, 0#8, 0#8, 0#8, 0#8, 0#8, 0#8, 0#8] [0#8, 0#8, 0#8, 0#8, 0#8, 0#8, 0#8, 0#8, 0#8, 0#8, 0#8, 0#8] (List.replicate nn 0#8) (List.replicate 16 0#8) (some ⟨g2, 0, none⟩) nn nn (some ⟨g5, 0, none⟩) 16 16 w (hok_cons ((src_full (z := 1) 1 rfl sd sd sd) w hw) (hok_cons ((src_full (z := 1) 0 rfl sd sd sd) w hw) (hok_nil w))) (by first | assumption | exact sd) (by first | assumption | exact sd) (by first | assumption | exact sd) (by first | assumption | exact sd) sd) (enters_of Try.func27 kr rfl) rfl rfl rfl rfl rfl (fun t6 q7 => ?_))
 refine lm rfl rfl rfl rfl rfl ?_
 refine lo rfl (pr_ext (vs := [(.slice none 0 0), (.int .i64 ((5 : Nat) : Int))]) rfl rfl rfl) rfl rfl ?_
 refine lo rfl (pr_ext (vs := [(.slice none 0 0), (.int .i64 ((5 : Nat) : Int))]) rfl rfl rfl) rfl rfl ?_
 refine la rfl rfl rfl rfl rfl ?_
 refine la rfl rfl rfl rfl rfl ?_
 refine L_nil ?_
 refine T_seq ?_
 refine Tsr hF rfl ?_
 refine lm rfl rfl rfl rfl rfl ?_
 refine L_nil ?_
 refine T_cond_t rfl ?_
 refine Tsr hF rfl ?_
 refine L_op rfl (op_cn (fun w hw => awake7_f  w (hok_nil w) ) (enters_of Try.func23 kr rfl) rfl rfl rfl rfl rfl (fun t8 q9 => ?_))
 refine lm rfl rfl rfl rfl rfl ?_
 refine lm rfl rfl rfl rfl rfl ?_
 refine lo rfl (pr_cmp (bo := .eql) (nc_eq (a := 5) (b := 5)) rfl rfl rfl rfl) rfl rfl ?_
 refine lo rfl (pr_pick_t rfl rfl rfl) rfl rfl ?_
 refine lm rfl rfl rfl rfl rfl ?_
 refine lm rfl rfl rfl rfl rfl ?_
 refine lo rfl (pr_len_sl Try.underlying25 rfl rfl) rfl rfl ?_
 refine lo rfl (pr_cmp (bo := .eql) (nc_eq (a := 0) (b := 0)) rfl rfl rfl rfl) rfl rfl ?_
 refine lo rfl (pr_pick_t rfl rfl rfl) rfl rfl ?_
 refine lm rfl rfl rfl rfl rfl ?_
 refine lm rfl rfl rfl rfl rfl ?_
 refine lo rfl (pr_cmp (bo := .eql) (nc_eq (a := 5) (b := 5)) rfl rfl rfl rfl) rfl rfl ?_
 refine lo rfl (pr_pick_t rfl rfl rfl) rfl rfl ?_
 refine la rfl rfl rfl rfl rfl ?_
 refine L_nil ?_
 refine T_ret ?_
 refine T_slot 4 (.bool (5 == 5)) (.bool true) rfl (by first | (rw [aplain_seal]; simp; done) | (simp; done) | rfl) ?_
 exact T_fin () (by first | trivial | omega | (simp; done)) (res1 rfl rfl) [] ⟨by decide, rfl⟩ rfl
set_option maxRecDepth 100000 in
set_option maxHeartbeats 4000000 in
theorem limit_mp_f (nn : Nat) (w : World) (hO : HOK [] w) (hnn : nn = 65537) : Calls Try.prog 12 [(.bool true), (.bool false)].toArray w (Ret (T := Unit) [] w (fun _ => True) (fun _ => (.bool true)) (fun _ => [])) := by
 have hsl : (aseal [0#8, 0#8, 0#8, 0#8, 0#8, 0#8, 0#8, 0#8, 0#8, 0#8, 0#8, 0#8, 0#8, 0#8, 0#8, 0#8, 0#8, 0#8, 0#8, 0#8, 0#8, 0#8, 0#8, 0#8, 0#8, 0#8, 0#8, 0#8, 0#8, 0#8, 0#8, 0#8] [0#8, 0#8, 0#8, 0#8, 0#8, 0#8, 0#8, 0#8, 0#8, 0#8, 0#8, 0#8] (List.replicate nn 0#8) []).length = 0 + 16 := by rw [aseal_len]; rfl
 have hsl2 : (aseal [0#8, 0#8, 0#8, 0#8, 0#8, 0#8, 0#8, 0#8, 0#8, 0#8, 0#8, 0#8, 0#8, 0#8, 0#8, 0#8, 0#8, 0#8, 0#8, 0#8, 0#8, 0#8, 0#8, 0#8, 0#8, 0#8, 0#8, 0#8, 0#8, 0#8, 0#8, 0#8] [0#8, 0#8, 0#8, 0#8, 0#8, 0#8, 0#8, 0#8, 0#8, 0#8, 0#8, 0#8] [] (List.replicate nn 0#8)).length = nn + 16 := by rw [aseal_len, List.length_replicate]
 have hF : Wid Fence.wide := wid_wide
 refine enter (c := _) Try.func12 rfl [] [(.bool true), (.bool false)] [] (by rw [Try.ntmps12]; rfl) (own_rds hO rfl) ?_
 rw [Try.ntmps12]
 refine T_re [(0, (.bool true)), (1, (.bool false))] (sc rfl (sc rfl sn)) ?_
 refine T_he [] [] ⟨by decide, rfl⟩ ?_
 refine Tsr hF rfl ?_
 refine la rfl rfl rfl rfl rfl ?_
 refine L_nil ?_
 refine Tsr hF rfl ?_
 refine la rfl rfl rfl rfl rfl ?_
 refine L_nil ?_
 refine T_seq ?_
 refine Tsr hF rfl ?_
 refine lm rfl rfl rfl rfl rfl ?_
 refine L_nil ?_
 refine T_cond_t rfl ?_
 refine T_reg hF rfl ?_
 refine lm rfl rfl rfl rfl rfl ?_
 refine lo rfl (pr_add (na_i64 (a := 65536) (b := 1) sd) rfl rfl rfl) rfl rfl ?_
 refine T_slot 16 (.int .i64 ((65537 : Nat) : Int)) (.int .i64 ((nn : Nat) : Int)) rfl (by rw [hnn]) ?_
 refine la rfl rfl rfl rfl rfl ?_
 refine L_nil ?_
 refine Tsr hF rfl ?_
 refine lm rfl rfl rfl rfl rfl ?_
 refine L_op rfl (op_make (z := (b8 (0#8))) (n := nn) (c := nn) Try.underlying25 (bytes := 1) kr rfl sd sd sd rfl rfl rfl rfl rfl (fun g1 => ?_))
 refine T_as 0 _ (.blk g1 5 ((List.replicate nn 0#8).map b8)) rfl (by rw [List.map_replicate]) ?_
 refine la rfl rfl rfl rfl rfl ?_
 refine la rfl rfl rfl rfl rfl ?_
 refine L_nil ?_
 refine T_seq ?_
 refine Tsr hF rfl ?_
 refine lm rfl rfl rfl rfl rfl ?_
 refine L_nil ?_
 refine T_cond_f rfl ?_
 refine T_skip ?_
 refine Tsr hF rfl ?_
 refine lo rfl (pr_build (qs := []) (v := .agg ([0#8, 0#8, 0#8, 0#8, 0#8, 0#8, 0#8, 0#8, 0#8, 0#8, 0#8, 0#8, 0#8, 0#8, 0#8, 0#8, 0#8, 0#8, 0#8, 0#8, 0#8, 0#8, 0#8, 0#8, 0#8, 0#8, 0#8, 0#8, 0#8, 0#8, 0#8, 0#8].map b8).toArray) (fun _ => by kernel_rfl) rfl rfl) rfl rfl ?_
 refine lo rfl (pr_build (qs := []) (v := .agg ([0#8, 0#8, 0#8, 0#8, 0#8, 0#8, 0#8, 0#8, 0#8, 0#8, 0#8, 0#8].map b8).toArray) (fun _ => by kernel_rfl) rfl rfl) rfl rfl ?_
 refine lm rfl rfl rfl rfl rfl ?_
 refine lm rfl rfl rfl rfl rfl ?_
 refine L_op rfl (op_cn (fun w hw => seal_lp_f [0#8, 0#8, 0#8, 0#8, 0#8, 0#8, 0#8, 0#8, 0#8, 0#8, 0#8, 0#8, 0#8, 0#8, 0#8, 0#8, 0#8, 0#8, 0#8, 0#8, 0#8, 0#8, 0#8, 0#8, 0#8, 0#8, 0#8, 0#8, 0#8, 0#8, 0#8, 0#8] [0#8, 0#8, 0#8, 0#8, 0#8, 0#8, 0#8, 0#8, 0#8, 0#8, 0#8, 0#8] [] (List.replicate nn 0#8) none 0 0 (some ⟨g1, 0, none⟩) nn nn w (hok_cons ((src_nil 1) w hw) (hok_cons ((src_full (z := 1) 0 rfl sd sd sd) w hw) (hok_nil w))) (by first | assumption | exact sd) (by first | assumption | exact sd) (by first | assumption | exact sd) (by first | assumption | exact sd) sd sd) (enters_of Try.func24 kr rfl) rfl rfl rfl rfl rfl (fun t2 q3 => ?_))
 refine lm rfl rfl rfl rfl rfl ?_
 refine lo rfl (pr_ext (vs := [(.slice none 0 0), (.int .i64 ((5 : Nat) : Int))]) rfl rfl rfl) rfl rfl ?_
 refine lo rfl (pr_ext (vs := [(.slice none 0 0), (.int .i64 ((5 : Nat) : Int))]) rfl rfl rfl) rfl rfl ?_
 refine la rfl rfl rfl rfl rfl ?_
 refine la rfl rfl rfl rfl rfl ?_
 refine L_nil ?_
 refine Tsr hF rfl ?_
 refine lo rfl (pr_build (qs := []) (v := .agg ([0#8, 0#8, 0#8, 0#8, 0#8, 0#8, 0#8, 0#8, 0#8, 0#8, 0#8, 0#8, 0#8, 0#8, 0#8, 0#8, 0#8, 0#8, 0#8, 0#8, 0#8, 0#8, 0#8, 0#8, 0#8, 0#8, 0#8, 0#8, 0#8, 0#8, 0#8, 0#8].map b8).toArray) (fun _ => by kernel_rfl) rfl rfl) rfl rfl ?_
 refine lo rfl (pr_build (qs := []) (v := .agg ([0#8, 0#8, 0#8, 0#8, 0#8, 0#8, 0#8, 0#8, 0#8, 0#8, 0#8, 0#8].map b8).toArray) (fun _ => by kernel_rfl) rfl rfl) rfl rfl ?_
 refine lm rfl rfl rfl rfl rfl ?_
 refine lm rfl rfl rfl rfl rfl ?_
 refine lo rfl (pr_len_sl Try.underlying25 rfl rfl) rfl rfl ?_
 refine lo rfl (pr_add (na_i64 (a := nn) (b := 16) sd) rfl rfl rfl) rfl rfl ?_
 refine L_op rfl (op_make (z := (b8 (0#8))) (n := nn + 16) (c := nn + 16) Try.underlying25 (bytes := 1) kr rfl sd sd sd rfl rfl rfl rfl rfl (fun g4 => ?_))
 refine T_as 0 _ (.blk g4 5 ((List.replicate (nn + 16) 0#8).map b8)) rfl (by rw [List.map_replicate]) ?_
 refine L_op rfl (op_cn (fun w hw => open_lp_f [0#8, 0#8, 0#8, 0#8, 0#8, 0#8, 0#8, 0#8, 0#8, 0#8, 0#8, 0#8, 0#8, 0#8, 0#8, 0#8, 0#8, 0#8, 0#8, 0#8, 0#8, 0#8, 0#8, 0#8, 0#8, 0#8, 0#8, 0#8, 0#8, 0#8, 0#8, 0#8] [0#8, 0#8, 0#8, 0#8, 0#8, 0#8, 0#8, 0#8, 0#8, 0#8, 0#8, 0#8] [] (List.take (nn + 16) (List.drop 0 (List.replicate (nn + 16) 0#8))) none 0 0 (some ⟨g4, 0, none⟩) (nn + 16) (nn + 16) w (hok_cons ((src_nil 1) w hw) (hok_cons ((src_sub 0 rfl sd sd sd) w hw) (hok_nil w))) (by first | assumption | exact sd) (by first | assumption | exact sd) (by first | assumption | exact sd) (by first | assumption | exact sd) sd sd) (enters_of Try.func27 kr rfl) rfl rfl rfl rfl rfl (fun t5 q6 => ?_))
 refine lm rfl rfl rfl rfl rfl ?_
 refine lo rfl (pr_ext (vs := [(.slice none 0 0), (.int .i64 ((5 : Nat) : Int))]) rfl rfl rfl) rfl rfl ?_
 refine lo rfl (pr_ext (vs := [(.slice none 0 0), (.int .i64 ((5 : Nat) : Int))]) rfl rfl rfl) rfl rfl ?_
 refine la rfl rfl rfl rfl rfl ?_
 refine la rfl rfl rfl rfl rfl ?_
 refine L_nil ?_
 refine T_seq ?_
 refine Tsr hF rfl ?_
 refine lm rfl rfl rfl rfl rfl ?_
 refine L_nil ?_
 refine T_cond_t rfl ?_
 refine Tsr hF rfl ?_
 refine L_op rfl (op_cn (fun w hw => awake7_f  w (hok_nil w) ) (enters_of Try.func23 kr rfl) rfl rfl rfl rfl rfl (fun t7 q8 => ?_))
 refine lm rfl rfl rfl rfl rfl ?_
 refine lm rfl rfl rfl rfl rfl ?_
 refine lo rfl (pr_cmp (bo := .eql) (nc_eq (a := 5) (b := 5)) rfl rfl rfl rfl) rfl rfl ?_
 refine lo rfl (pr_pick_t rfl rfl rfl) rfl rfl ?_
 refine lm rfl rfl rfl rfl rfl ?_
 refine lm rfl rfl rfl rfl rfl ?_
 refine lo rfl (pr_len_sl Try.underlying25 rfl rfl) rfl rfl ?_
 refine lo rfl (pr_cmp (bo := .eql) (nc_eq (a := 0) (b := 0)) rfl rfl rfl rfl) rfl rfl ?_
 refine lo rfl (pr_pick_t rfl rfl rfl) rfl rfl ?_
 refine lm rfl rfl rfl rfl rfl ?_
 refine lm rfl rfl rfl rfl rfl ?_
 refine lo rfl (pr_cmp (bo := .eql) (nc_eq (a := 5) (b := 5)) rfl rfl rfl rfl) rfl rfl ?_
 refine lo rfl (pr_pick_t rfl rfl rfl) rfl rfl ?_
 refine la rfl rfl rfl rfl rfl ?_
 refine L_nil ?_
 refine T_ret ?_
 refine T_slot 4 (.bool (5 == 5)) (.bool true) rfl (by first | (rw [aplain_seal]; simp; done) | (simp; done) | rfl) ?_
 exact T_fin () (by first | trivial | omega | (simp; done)) (res1 rfl rfl) [] ⟨by decide, rfl⟩ rfl
set_option maxRecDepth 100000 in
set_option maxHeartbeats 4000000 in
theorem limit_ob_f (nn : Nat) (w : World) (hO : HOK [] w) (hnn : nn = 65536) (hg : agood [0#8, 0#8, 0#8, 0#8, 0#8, 0#8, 0#8, 0#8, 0#8, 0#8, 0#8, 0#8, 0#8, 0#8, 0#8, 0#8, 0#8, 0#8, 0#8, 0#8, 0#8, 0#8, 0#8, 0#8, 0#8, 0#8, 0#8, 0#8, 0#8, 0#8, 0#8, 0#8] [0#8, 0#8, 0#8, 0#8, 0#8, 0#8, 0#8, 0#8, 0#8, 0#8, 0#8, 0#8] (List.replicate nn 0#8) (List.replicate 16 0#8)) : Calls Try.prog 12 [(.bool false), (.bool true)].toArray w (Ret (T := Unit) [] w (fun _ => True) (fun _ => (.bool true)) (fun _ => [])) := by
 have hsl : (aseal [0#8, 0#8, 0#8, 0#8, 0#8, 0#8, 0#8, 0#8, 0#8, 0#8, 0#8, 0#8, 0#8, 0#8, 0#8, 0#8, 0#8, 0#8, 0#8, 0#8, 0#8, 0#8, 0#8, 0#8, 0#8, 0#8, 0#8, 0#8, 0#8, 0#8, 0#8, 0#8] [0#8, 0#8, 0#8, 0#8, 0#8, 0#8, 0#8, 0#8, 0#8, 0#8, 0#8, 0#8] (List.replicate nn 0#8) []).length = 0 + 16 := by rw [aseal_len]; rfl
 have hsl2 : (aseal [0#8, 0#8, 0#8, 0#8, 0#8, 0#8, 0#8, 0#8, 0#8, 0#8, 0#8, 0#8, 0#8, 0#8, 0#8, 0#8, 0#8, 0#8, 0#8, 0#8, 0#8, 0#8, 0#8, 0#8, 0#8, 0#8, 0#8, 0#8, 0#8, 0#8, 0#8, 0#8] [0#8, 0#8, 0#8, 0#8, 0#8, 0#8, 0#8, 0#8, 0#8, 0#8, 0#8, 0#8] [] (List.replicate nn 0#8)).length = nn + 16 := by rw [aseal_len, List.length_replicate]
 have hF : Wid Fence.wide := wid_wide
 refine enter (c := _) Try.func12 rfl [] [(.bool false), (.bool true)] [] (by rw [Try.ntmps12]; rfl) (own_rds hO rfl) ?_
 rw [Try.ntmps12]
 refine T_re [(0, (.bool false)), (1, (.bool true))] (sc rfl (sc rfl sn)) ?_
 refine T_he [] [] ⟨by decide, rfl⟩ ?_
 refine Tsr hF rfl ?_
 refine la rfl rfl rfl rfl rfl ?_
 refine L_nil ?_
 refine Tsr hF rfl ?_
 refine la rfl rfl rfl rfl rfl ?_
 refine T_slot 5 (.int .i64 ((65536 : Nat) : Int)) (.int .i64 ((nn : Nat) : Int)) rfl (by rw [hnn]) ?_
 refine L_nil ?_
 refine T_seq ?_
 refine Tsr hF rfl ?_
 refine lm rfl rfl rfl rfl rfl ?_
 refine L_nil ?_
 refine T_cond_f rfl ?_
 refine T_skip ?_
 refine Tsr hF rfl ?_
 refine lm rfl rfl rfl rfl rfl ?_
 refine L_op rfl (op_make (z := (b8 (0#8))) (n := nn) (c := nn) Try.underlying25 (bytes := 1) kr rfl sd sd sd rfl rfl rfl rfl rfl (fun g1 => ?_))
 refine T_as 0 _ (.blk g1 5 ((List.replicate nn 0#8).map b8)) rfl (by rw [List.map_replicate]) ?_
 refine la rfl rfl rfl rfl rfl ?_
 refine la rfl rfl rfl rfl rfl ?_
 refine L_nil ?_
 refine T_seq ?_
 refine Tsr hF rfl ?_
 refine lm rfl rfl rfl rfl rfl ?_
 refine L_nil ?_
 refine T_cond_t rfl ?_
 refine T_regD [.blk g1 5 ((List.replicate nn 0#8).map b8)] 4 4 #[false, false, false, false] hF kr kr ?_
 refine D_pure (i := 0) [0] rfl kr rfl (pr_move rfl rfl) (.inr rfl) rfl rfl ?_
 refine D_pure (i := 2) [0] rfl kr rfl (pr_assign rfl rfl) (.inr rfl) rfl rfl ?_
 refine D_one 1 _ rfl kr rfl (op_make (z := (b8 (0#8))) (n := nn) (c := nn) Try.underlying25 (bytes := 1) kr rfl sd sd sd rfl rfl rfl rfl rfl (fun g2 => ?_))
 refine T_as 0 _ (.blk g2 5 ((List.replicate nn 0#8).map b8)) rfl (by rw [List.map_replicate]) ?_
 refine D_on [1] rfl ?_
 refine D_pure (i := 3) [1] rfl kr rfl (pr_assign rfl rfl) (.inr rfl) rfl rfl ?_
 refine D_done kr ?_
 refine Tsr hF rfl ?_
 refine lo rfl (pr_build (qs := []) (v := .agg ([0#8, 0#8, 0#8, 0#8, 0#8, 0#8, 0#8, 0#8, 0#8, 0#8, 0#8, 0#8, 0#8, 0#8, 0#8, 0#8, 0#8, 0#8, 0#8, 0#8, 0#8, 0#8, 0#8, 0#8, 0#8, 0#8, 0#8, 0#8, 0#8, 0#8, 0#8, 0#8].map b8).toArray) (fun _ => by kernel_rfl) rfl rfl) rfl rfl ?_
 refine lo rfl (pr_build (qs := []) (v := .agg ([0#8, 0#8, 0#8, 0#8, 0#8, 0#8, 0#8, 0#8, 0#8, 0#8, 0#8, 0#8].map b8).toArray) (fun _ => by kernel_rfl) rfl rfl) rfl rfl ?_
 refine lm rfl rfl rfl rfl rfl ?_
 refine lm rfl rfl rfl rfl rfl ?_
 refine L_op rfl (op_cn (fun w hw => seal_f [0#8, 0#8, 0#8, 0#8, 0#8, 0#8, 0#8, 0#8, 0#8, 0#8, 0#8, 0#8, 0#8, 0#8, 0#8, 0#8, 0#8, 0#8, 0#8, 0#8, 0#8, 0#8, 0#8, 0#8, 0#8, 0#8, 0#8, 0#8, 0#8, 0#8, 0#8, 0#8] [0#8, 0#8, 0#8, 0#8, 0#8, 0#8, 0#8, 0#8, 0#8, 0#8, 0#8, 0#8] (List.replicate nn 0#8) [] (some ⟨g2, 0, none⟩) nn nn none 0 0 w (hok_cons ((src_full (z := 1) 0 rfl sd sd sd) w hw) (hok_cons ((src_nil 1) w hw) (hok_nil w))) (by first | assumption | exact sd) (by first | assumption | exact sd) (by first | assumption | exact sd) (by first | assumption | exact sd) sd sd) (enters_of Try.func24 kr rfl) rfl rfl rfl rfl rfl (fun t3 q4 => ?_))
 obtain ⟨B5, d6⟩ := t3
 refine lm rfl rfl rfl rfl rfl ?_
 refine lo rfl (pr_ext (vs := [(.slice B5 (0 + 16) d6), (.int .i64 ((0 : Nat) : Int))]) rfl rfl rfl) rfl rfl ?_
 refine lo rfl (pr_ext (vs := [(.slice B5 (0 + 16) d6), (.int .i64 ((0 : Nat) : Int))]) rfl rfl rfl) rfl rfl ?_
 refine la rfl rfl rfl rfl rfl ?_
 refine la rfl rfl rfl rfl rfl ?_
 refine L_nil ?_
 refine Tsr hF rfl ?_
 refine lo rfl (pr_build (qs := []) (v := .agg ([0#8, 0#8, 0#8, 0#8, 0#8, 0#8, 0#8, 0#8, 0#8, 0#8, 0#8, 0#8, 0#8, 0#8, 0#8, 0#8, 0#8, 0#8, 0#8, 0#8, 0#8, 0#8, 0#8, 0#8, 0#8, 0#8, 0#8, 0#8, 0#8, 0#8, 0#8, 0#8].map b8).toArray) (fun _ => by kernel_rfl) rfl rfl) rfl rfl ?_
 refine lo rfl (pr_build (qs := []) (v := .agg ([0#8, 0#8, 0#8, 0#8, 0#8, 0#8, 0#8, 0#8, 0#8, 0#8, 0#8, 0#8].map b8).toArray) (fun _ => by kernel_rfl) rfl rfl) rfl rfl ?_
 refine lm rfl rfl rfl rfl rfl ?_
 refine lm rfl rfl rfl rfl rfl ?_
 refine lo rfl (pr_len_sl Try.underlying25 rfl rfl) rfl rfl ?_
 refine lo rfl (pr_add (na_i64 (a := 0) (b := 16) sd) rfl rfl rfl) rfl rfl ?_
 refine L_op rfl (op_make (z := (b8 (0#8))) (n := 16) (c := 16) Try.underlying25 (bytes := 1) kr rfl sd sd sd rfl rfl rfl rfl rfl (fun g7 => ?_))
 refine T_as 0 _ (.blk g7 5 ((List.replicate 16 0#8).map b8)) rfl (by rw [List.map_replicate]) ?_
 refine L_op rfl (op_cn (fun w hw => open_ok_f [0#8, 0#8, 0#8, 0#8, 0#8, 0#8, 0#8, 0#8, 0#8, 0#8, 0#8, 0#8, 0#8, 0#8, 0#8, 0#8, 0#8, 0#8, 0#8, 0#8, 0#8, 0#8, 0#8, 0#8, 0#8, 0#8, 0#8, 0#8, 0#8, 0#8, 0#8, 0#8] [0#8, 0#8, 0#8, 0#8, 0#8, 0#8, 0#8, 0#8, 0#8, 0#8, 0#8, 0#8] (List.replicate nn 0#8) (List.replicate 16 0#8) (some ⟨g2, 0, none⟩) nn nn (some ⟨g7, 0, none⟩) 16 16 w (hok_cons ((src_full (z := 1) 2 rfl sd sd sd) w hw) (hok_cons ((src_full (z := 1) 0 rfl sd sd sd) w hw) (hok_nil w))) (by first | assumption | exact sd) (by first | assumption | exact sd) (by first | assumption | exact sd) (by first | assumption | exact sd) sd sd sd hg) (enters_of Try.func27 kr rfl) rfl rfl rfl rfl rfl (fun t8 q9 => ?_))
 obtain ⟨B10, d11⟩ := t8
 refine lm rfl rfl rfl rfl rfl ?_
 refine lo rfl (pr_ext (vs := [(.slice B10 (16 - 16) d11), (.int .i64 ((0 : Nat) : Int))]) rfl rfl rfl) rfl rfl ?_
 refine lo rfl (pr_ext (vs := [(.slice B10 (16 - 16) d11), (.int .i64 ((0 : Nat) : Int))]) rfl rfl rfl) rfl rfl ?_
 refine la rfl rfl rfl rfl rfl ?_
 refine la rfl rfl rfl rfl rfl ?_
 refine L_nil ?_
 refine T_seq ?_
 refine Tsr hF rfl ?_
 refine lm rfl rfl rfl rfl rfl ?_
 refine L_nil ?_
 refine T_cond_f rfl ?_
 refine T_skip ?_
 refine Tsr hF rfl ?_
 refine lo rfl (pr_build (qs := []) (v := .agg ([0#8, 0#8, 0#8, 0#8, 0#8, 0#8, 0#8, 0#8, 0#8, 0#8, 0#8, 0#8, 0#8, 0#8, 0#8, 0#8, 0#8, 0#8, 0#8, 0#8, 0#8, 0#8, 0#8, 0#8, 0#8, 0#8, 0#8, 0#8, 0#8, 0#8, 0#8, 0#8].map b8).toArray) (fun _ => by kernel_rfl) rfl rfl) rfl rfl ?_
 refine lo rfl (pr_build (qs := []) (v := .agg ([0#8, 0#8, 0#8, 0#8, 0#8, 0#8, 0#8, 0#8, 0#8, 0#8, 0#8, 0#8].map b8).toArray) (fun _ => by kernel_rfl) rfl rfl) rfl rfl ?_
 refine lm rfl rfl rfl rfl rfl ?_
 refine lm rfl rfl rfl rfl rfl ?_
 refine L_op rfl (op_cn (fun w hw => open_ok_f [0#8, 0#8, 0#8, 0#8, 0#8, 0#8, 0#8, 0#8, 0#8, 0#8, 0#8, 0#8, 0#8, 0#8, 0#8, 0#8, 0#8, 0#8, 0#8, 0#8, 0#8, 0#8, 0#8, 0#8, 0#8, 0#8, 0#8, 0#8, 0#8, 0#8, 0#8, 0#8] [0#8, 0#8, 0#8, 0#8, 0#8, 0#8, 0#8, 0#8, 0#8, 0#8, 0#8, 0#8] (List.replicate nn 0#8) (aseal [0#8, 0#8, 0#8, 0#8, 0#8, 0#8, 0#8, 0#8, 0#8, 0#8, 0#8, 0#8, 0#8, 0#8, 0#8, 0#8, 0#8, 0#8, 0#8, 0#8, 0#8, 0#8, 0#8, 0#8, 0#8, 0#8, 0#8, 0#8, 0#8, 0#8, 0#8, 0#8] [0#8, 0#8, 0#8, 0#8, 0#8, 0#8, 0#8, 0#8, 0#8, 0#8, 0#8, 0#8] (List.replicate nn 0#8) []) (some ⟨g2, 0, none⟩) nn nn B5 (0 + 16) d6 w (hok_cons ((src_full (z := 1) 3 rfl sd sd sd) w hw) (hok_cons ((src_row 2 rfl) w hw) (hok_nil w))) (by first | assumption | exact sd) (by first | assumption | exact sd) (by first | assumption | exact sd) (by first | assumption | exact sd) sd sd sd (agood_seal _ _ _ _)) (enters_of Try.func27 kr rfl) rfl rfl rfl rfl rfl (fun t12 q13 => ?_))
 obtain ⟨B14, d15⟩ := t12
 refine lm rfl rfl rfl rfl rfl ?_
 refine lo rfl (pr_ext (vs := [(.slice B14 ((0 + 16) - 16) d15), (.int .i64 ((0 : Nat) : Int))]) rfl rfl rfl) rfl rfl ?_
 refine lo rfl (pr_ext (vs := [(.slice B14 ((0 + 16) - 16) d15), (.int .i64 ((0 : Nat) : Int))]) rfl rfl rfl) rfl rfl ?_
 refine la rfl rfl rfl rfl rfl ?_
 refine la rfl rfl rfl rfl rfl ?_
 refine L_nil ?_
 refine Tsr hF rfl ?_
 refine L_op rfl (op_cn (fun w hw => awake7_f  w (hok_nil w) ) (enters_of Try.func23 kr rfl) rfl rfl rfl rfl rfl (fun t16 q17 => ?_))
 refine lm rfl rfl rfl rfl rfl ?_
 refine lm rfl rfl rfl rfl rfl ?_
 refine lo rfl (pr_cmp (bo := .eql) (nc_eq (a := 0) (b := 0)) rfl rfl rfl rfl) rfl rfl ?_
 refine lo rfl (pr_pick_t rfl rfl rfl) rfl rfl ?_
 refine lm rfl rfl rfl rfl rfl ?_
 refine lm rfl rfl rfl rfl rfl ?_
 refine lo rfl (pr_len_sl Try.underlying25 rfl rfl) rfl rfl ?_
 refine lm rfl rfl rfl rfl rfl ?_
 refine lo rfl (pr_len_sl Try.underlying25 rfl rfl) rfl rfl ?_
 refine lo rfl (pr_add (na_i64 (a := 0) (b := 16) sd) rfl rfl rfl) rfl rfl ?_
 refine lo rfl (pr_cmp (bo := .eql) (nc_eq (a := 0 + 16) (b := 16)) rfl rfl rfl rfl) rfl rfl ?_
 refine lo rfl (pr_pick_t rfl rfl rfl) rfl rfl ?_
 refine lm rfl rfl rfl rfl rfl ?_
 refine T_slot 77 (.bool (0 + 16 == 16)) (.bool true) rfl (congrArg _ (by rfl)) ?_
 refine lm rfl rfl rfl rfl rfl ?_
 refine lo rfl (pr_cmp (bo := .neq) (nc_ne (a := 0) (b := 5)) rfl rfl rfl rfl) rfl rfl ?_
 refine lo rfl (pr_pick_t rfl rfl rfl) rfl rfl ?_
 refine lm rfl rfl rfl rfl rfl ?_
 refine lm rfl rfl rfl rfl rfl ?_
 refine lo rfl (pr_cmp (bo := .neq) (nc_ne (a := 0) (b := 3)) rfl rfl rfl rfl) rfl rfl ?_
 refine lo rfl (pr_pick_t rfl rfl rfl) rfl rfl ?_
 refine lm rfl rfl rfl rfl rfl ?_
 refine lm rfl rfl rfl rfl rfl ?_
 refine lo rfl (pr_cmp (bo := .eql) (nc_eq (a := 0) (b := 0)) rfl rfl rfl rfl) rfl rfl ?_
 refine lo rfl (pr_pick_t rfl rfl rfl) rfl rfl ?_
 refine lm rfl rfl rfl rfl rfl ?_
 refine lm rfl rfl rfl rfl rfl ?_
 refine lm rfl rfl rfl rfl rfl ?_
 refine L_op rfl (op_cn (fun w hw => bytes_f (aplain [0#8, 0#8, 0#8, 0#8, 0#8, 0#8, 0#8, 0#8, 0#8, 0#8, 0#8, 0#8, 0#8, 0#8, 0#8, 0#8, 0#8, 0#8, 0#8, 0#8, 0#8, 0#8, 0#8, 0#8, 0#8, 0#8, 0#8, 0#8, 0#8, 0#8, 0#8, 0#8] [0#8, 0#8, 0#8, 0#8, 0#8, 0#8, 0#8, 0#8, 0#8, 0#8, 0#8, 0#8] (aseal [0#8, 0#8, 0#8, 0#8, 0#8, 0#8, 0#8, 0#8, 0#8, 0#8, 0#8, 0#8, 0#8, 0#8, 0#8, 0#8, 0#8, 0#8, 0#8, 0#8, 0#8, 0#8, 0#8, 0#8, 0#8, 0#8, 0#8, 0#8, 0#8, 0#8, 0#8, 0#8] [0#8, 0#8, 0#8, 0#8, 0#8, 0#8, 0#8, 0#8, 0#8, 0#8, 0#8, 0#8] (List.replicate nn 0#8) [])) [] B14 ((0 + 16) - 16) d15 none 0 0 w (hok_cons ((src_row 0 rfl) w hw) (hok_cons ((src_nil 1) w hw) (hok_nil w))) ) (enters_of Try.func26 kr rfl) rfl rfl rfl rfl rfl (fun t19 q20 => ?_))
 refine lo rfl (pr_pick_t rfl rfl rfl) rfl rfl ?_
 refine la rfl rfl rfl rfl rfl ?_
 refine L_nil ?_
 refine T_ret ?_
 refine T_slot 4 _ (.bool true) rfl (by first | (rw [aplain_seal]; simp; done) | (simp; done) | rfl) ?_
 exact T_fin () (by first | trivial | omega | (simp; done)) (res1 rfl rfl) [] ⟨by decide, rfl⟩ rfl
set_option maxRecDepth 100000 in
set_option maxHeartbeats 4000000 in
theorem limit_bb_f (nn : Nat) (w : World) (hO : HOK [] w) (hnn : nn = 65536) (hg : ¬ agood [0#8, 0#8, 0#8, 0#8, 0#8, 0#8, 0#8, 0#8, 0#8, 0#8, 0#8, 0#8, 0#8, 0#8, 0#8, 0#8, 0#8, 0#8, 0#8, 0#8, 0#8, 0#8, 0#8, 0#8, 0#8, 0#8, 0#8, 0#8, 0#8, 0#8, 0#8, 0#8] [0#8, 0#8, 0#8, 0#8, 0#8, 0#8, 0#8, 0#8, 0#8, 0#8, 0#8, 0#8] (List.replicate nn 0#8) (List.replicate 16 0#8)) : Calls Try.prog 12 [(.bool false), (.bool true)].toArray w (Ret (T := Unit) [] w (fun _ => True) (fun _ => (.bool true)) (fun _ => [])) := by
 have hsl : (aseal [0#8, 0#8, 0#8, 0#8, 0#8, 0#8, 0#8, 0#8, 0#8, 0#8, 0#8, 0#8, 0#8, 0#8, 0#8, 0#8, 0#8, 0#8, 0#8, 0#8, 0#8, 0#8, 0#8, 0#8, 0#8, 0#8, 0#8, 0#8, 0#8, 0#8, 0#8, 0#8] [0#8, 0#8, 0#8, 0#8, 0#8, 0#8, 0#8, 0#8, 0#8, 0#8, 0#8, 0#8] (List.replicate nn 0#8) []).length = 0 + 16 := by rw [aseal_len]; rfl
 have hsl2 : (aseal [0#8, 0#8, 0#8, 0#8, 0#8, 0#8, 0#8, 0#8, 0#8, 0#8, 0#8, 0#8, 0#8, 0#8, 0#8, 0#8, 0#8, 0#8, 0#8, 0#8, 0#8, 0#8, 0#8, 0#8, 0#8, 0#8, 0#8, 0#8, 0#8, 0#8, 0#8, 0#8] [0#8, 0#8, 0#8, 0#8, 0#8, 0#8, 0#8, 0#8, 0#8, 0#8, 0#8, 0#8] [] (List.replicate nn 0#8)).length = nn + 16 := by rw [aseal_len, List.length_replicate]
 have hF : Wid Fence.wide := wid_wide
 refine enter (c := _) Try.func12 rfl [] [(.bool false), (.bool true)] [] (by rw [Try.ntmps12]; rfl) (own_rds hO rfl) ?_
 rw [Try.ntmps12]
 refine T_re [(0, (.bool false)), (1, (.bool true))] (sc rfl (sc rfl sn)) ?_
 refine T_he [] [] ⟨by decide, rfl⟩ ?_
 refine Tsr hF rfl ?_
 refine la rfl rfl rfl rfl rfl ?_
 refine L_nil ?_
 refine Tsr hF rfl ?_
 refine la rfl rfl rfl rfl rfl ?_
 refine T_slot 5 (.int .i64 ((65536 : Nat) : Int)) (.int .i64 ((nn : Nat) : Int)) rfl (by rw [hnn]) ?_
 refine L_nil ?_
 refine T_seq ?_
 refine Tsr hF rfl ?_
 refine lm rfl rfl rfl rfl rfl ?_
 refine L_nil ?_
 refine T_cond_f rfl ?_
 refine T_skip ?_
 refine Tsr hF rfl ?_
 refine lm rfl rfl rfl rfl rfl ?_
 refine L_op rfl (op_make (z := (b8 (0#8))) (n := nn) (c := nn) Try.underlying25 (bytes := 1) kr rfl sd sd sd rfl rfl rfl rfl rfl (fun g1 => ?_))
 refine T_as 0 _ (.blk g1 5 ((List.replicate nn 0#8).map b8)) rfl (by rw [List.map_replicate]) ?_
 refine la rfl rfl rfl rfl rfl ?_
 refine la rfl rfl rfl rfl rfl ?_
 refine L_nil ?_
 refine T_seq ?_
 refine Tsr hF rfl ?_
 refine lm rfl rfl rfl rfl rfl ?_
 refine L_nil ?_
 refine T_cond_t rfl ?_
 refine T_regD [.blk g1 5 ((List.replicate nn 0#8).map b8)] 4 4 #[false, false, false, false] hF kr kr ?_
 refine D_pure (i := 0) [0] rfl kr rfl (pr_move rfl rfl) (.inr rfl) rfl rfl ?_
 refine D_pure (i := 2) [0] rfl kr rfl (pr_assign rfl rfl) (.inr rfl) rfl rfl ?_
 refine D_one 1 _ rfl kr rfl (op_make (z := (b8 (0#8))) (n := nn) (c := nn) Try.underlying25 (bytes := 1) kr rfl sd sd sd rfl rfl rfl rfl rfl (fun g2 => ?_))
 refine T_as 0 _ (.blk g2 5 ((List.replicate nn 0#8).map b8)) rfl (by rw [List.map_replicate]) ?_
 refine D_on [1] rfl ?_
 refine D_pure (i := 3) [1] rfl kr rfl (pr_assign rfl rfl) (.inr rfl) rfl rfl ?_
 refine D_done kr ?_
 refine Tsr hF rfl ?_
 refine lo rfl (pr_build (qs := []) (v := .agg ([0#8, 0#8, 0#8, 0#8, 0#8, 0#8, 0#8, 0#8, 0#8, 0#8, 0#8, 0#8, 0#8, 0#8, 0#8, 0#8, 0#8, 0#8, 0#8, 0#8, 0#8, 0#8, 0#8, 0#8, 0#8, 0#8, 0#8, 0#8, 0#8, 0#8, 0#8, 0#8].map b8).toArray) (fun _ => by kernel_rfl) rfl rfl) rfl rfl ?_
 refine lo rfl (pr_build (qs := []) (v := .agg ([0#8, 0#8, 0#8, 0#8, 0#8, 0#8, 0#8, 0#8, 0#8, 0#8, 0#8, 0#8].map b8).toArray) (fun _ => by kernel_rfl) rfl rfl) rfl rfl ?_
 refine lm rfl rfl rfl rfl rfl ?_
 refine lm rfl rfl rfl rfl rfl ?_
 refine L_op rfl (op_cn (fun w hw => seal_f [0#8, 0#8, 0#8, 0#8, 0#8, 0#8, 0#8, 0#8, 0#8, 0#8, 0#8, 0#8, 0#8, 0#8, 0#8, 0#8, 0#8, 0#8, 0#8, 0#8, 0#8, 0#8, 0#8, 0#8, 0#8, 0#8, 0#8, 0#8, 0#8, 0#8, 0#8, 0#8] [0#8, 0#8, 0#8, 0#8, 0#8, 0#8, 0#8, 0#8, 0#8, 0#8, 0#8, 0#8] (List.replicate nn 0#8) [] (some ⟨g2, 0, none⟩) nn nn none 0 0 w (hok_cons ((src_full (z := 1) 0 rfl sd sd sd) w hw) (hok_cons ((src_nil 1) w hw) (hok_nil w))) (by first | assumption | exact sd) (by first | assumption | exact sd) (by first | assumption | exact sd) (by first | assumption | exact sd) sd sd) (enters_of Try.func24 kr rfl) rfl rfl rfl rfl rfl (fun t3 q4 => ?_))
 obtain ⟨B5, d6⟩ := t3
 refine lm rfl rfl rfl rfl rfl ?_
 refine lo rfl (pr_ext (vs := [(.slice B5 (0 + 16) d6), (.int .i64 ((0 : Nat) : Int))]) rfl rfl rfl) rfl rfl ?_
 refine lo rfl (pr_ext (vs := [(.slice B5 (0 + 16) d6), (.int .i64 ((0 : Nat) : Int))]) rfl rfl rfl) rfl rfl ?_
 refine la rfl rfl rfl rfl rfl ?_
 refine la rfl rfl rfl rfl rfl ?_
 refine L_nil ?_
 refine Tsr hF rfl ?_
 refine lo rfl (pr_build (qs := []) (v := .agg ([0#8, 0#8, 0#8, 0#8, 0#8, 0#8, 0#8, 0#8, 0#8, 0#8, 0#8, 0#8, 0#8, 0#8, 0#8, 0#8, 0#8, 0#8, 0#8, 0#8, 0#8, 0#8, 0#8, 0#8, 0#8, 0#8, 0#8, 0#8, 0#8, 0#8, 0#8, 0#8].map b8).toArray) (fun _ => by kernel_rfl) rfl rfl) rfl rfl ?_
 refine lo rfl (pr_build (qs := []) (v := .agg ([0#8, 0#8, 0#8, 0#8, 0#8, 0#8, 0#8, 0#8, 0#8, 0#8, 0#8, 0#8].map b8).toArray) (fun _ => by kernel_rfl) rfl rfl) rfl rfl ?_
 refine lm rfl rfl rfl rfl rfl ?_
 refine lm rfl rfl rfl rfl rfl ?_
 refine lo rfl (pr_len_sl Try.underlying25 rfl rfl) rfl rfl ?_
 refine lo rfl (pr_add (na_i64 (a := 0) (b := 16) sd) rfl rfl rfl) rfl rfl ?_
 refine L_op rfl (op_make (z := (b8 (0#8))) (n := 16) (c := 16) Try.underlying25 (bytes := 1) kr rfl sd sd sd rfl rfl rfl rfl rfl (fun g7 => ?_))
 refine T_as 0 _ (.blk g7 5 ((List.replicate 16 0#8).map b8)) rfl (by rw [List.map_replicate]) ?_
 refine L_op rfl (op_cn (fun w hw => open_bad_f [0#8, 0#8, 0#8, 0#8, 0#8, 0#8, 0#8, 0#8, 0#8, 0#8, 0#8, 0#8, 0#8, 0#8, 0#8, 0#8, 0#8, 0#8, 0#8, 0#8, 0#8, 0#8, 0#8, 0#8, 0#8, 0#8, 0#8, 0#8, 0#8, 0#8, 0#8, 0#8] [0#8, 0#8, 0#8, 0#8, 0#8, 0#8, 0#8, 0#8, 0#8, 0#8, 0#8, 0#8] (List.replicate nn 0#8) (List.replicate 16 0#8) (some ⟨g2, 0, none⟩) nn nn (some ⟨g7, 0, none⟩) 16 16 w (hok_cons ((src_full (z := 1) 2 rfl sd sd sd) w hw) (hok_cons ((src_full (z := 1) 0 rfl sd sd sd) w hw) (hok_nil w))) (by first | assumption | exact sd) (by first | assumption | exact sd) (by first | assumption | exact sd) (by first | assumption | exact sd) sd sd sd hg) (enters_of Try.func27 kr rfl) rfl rfl rfl rfl rfl (fun t8 q9 => ?_))
 refine lm rfl rfl rfl rfl rfl ?_
 refine lo rfl (pr_ext (vs := [(.slice none 0 0), (.int .i64 ((6 : Nat) : Int))]) rfl rfl rfl) rfl rfl ?_
 refine lo rfl (pr_ext (vs := [(.slice none 0 0), (.int .i64 ((6 : Nat) : Int))]) rfl rfl rfl) rfl rfl ?_
 refine la rfl rfl rfl rfl rfl ?_
 refine la rfl rfl rfl rfl rfl ?_
 refine L_nil ?_
 refine T_seq ?_
 refine Tsr hF rfl ?_
 refine lm rfl rfl rfl rfl rfl ?_
 refine L_nil ?_
 refine T_cond_f rfl ?_
 refine T_skip ?_
 refine Tsr hF rfl ?_
 refine lo rfl (pr_build (qs := []) (v := .agg ([0#8, 0#8, 0#8, 0#8, 0#8, 0#8, 0#8, 0#8, 0#8, 0#8, 0#8, 0#8, 0#8, 0#8, 0#8, 0#8, 0#8, 0#8, 0#8, 0#8, 0#8, 0#8, 0#8, 0#8, 0#8, 0#8, 0#8, 0#8, 0#8, 0#8, 0#8, 0#8].map b8).toArray) (fun _ => by kernel_rfl) rfl rfl) rfl rfl ?_
 refine lo rfl (pr_build (qs := []) (v := .agg ([0#8, 0#8, 0#8, 0#8, 0#8, 0#8, 0#8, 0#8, 0#8, 0#8, 0#8, 0#8].map b8).toArray) (fun _ => by kernel_rfl) rfl rfl) rfl rfl ?_
 refine lm rfl rfl rfl rfl rfl ?_
 refine lm rfl rfl rfl rfl rfl ?_
 refine L_op rfl (op_cn (fun w hw => open_ok_f [0#8, 0#8, 0#8, 0#8, 0#8, 0#8, 0#8, 0#8, 0#8, 0#8, 0#8, 0#8, 0#8, 0#8, 0#8, 0#8, 0#8, 0#8, 0#8, 0#8, 0#8, 0#8, 0#8, 0#8, 0#8, 0#8, 0#8, 0#8, 0#8, 0#8, 0#8, 0#8] [0#8, 0#8, 0#8, 0#8, 0#8, 0#8, 0#8, 0#8, 0#8, 0#8, 0#8, 0#8] (List.replicate nn 0#8) (aseal [0#8, 0#8, 0#8, 0#8, 0#8, 0#8, 0#8, 0#8, 0#8, 0#8, 0#8, 0#8, 0#8, 0#8, 0#8, 0#8, 0#8, 0#8, 0#8, 0#8, 0#8, 0#8, 0#8, 0#8, 0#8, 0#8, 0#8, 0#8, 0#8, 0#8, 0#8, 0#8] [0#8, 0#8, 0#8, 0#8, 0#8, 0#8, 0#8, 0#8, 0#8, 0#8, 0#8, 0#8] (List.replicate nn 0#8) []) (some ⟨g2, 0, none⟩) nn nn B5 (0 + 16) d6 w (hok_cons ((src_full (z := 1) 2 rfl sd sd sd) w hw) (hok_cons ((src_row 1 rfl) w hw) (hok_nil w))) (by first | assumption | exact sd) (by first | assumption | exact sd) (by first | assumption | exact sd) (by first | assumption | exact sd) sd sd sd (agood_seal _ _ _ _)) (enters_of Try.func27 kr rfl) rfl rfl rfl rfl rfl (fun t10 q11 => ?_))
 obtain ⟨B12, d13⟩ := t10
 refine lm rfl rfl rfl rfl rfl ?_
 refine lo rfl (pr_ext (vs := [(.slice B12 ((0 + 16) - 16) d13), (.int .i64 ((0 : Nat) : Int))]) rfl rfl rfl) rfl rfl ?_
 refine lo rfl (pr_ext (vs := [(.slice B12 ((0 + 16) - 16) d13), (.int .i64 ((0 : Nat) : Int))]) rfl rfl rfl) rfl rfl ?_
 refine la rfl rfl rfl rfl rfl ?_
 refine la rfl rfl rfl rfl rfl ?_
 refine L_nil ?_
 refine Tsr hF rfl ?_
 refine L_op rfl (op_cn (fun w hw => awake7_f  w (hok_nil w) ) (enters_of Try.func23 kr rfl) rfl rfl rfl rfl rfl (fun t14 q15 => ?_))
 refine lm rfl rfl rfl rfl rfl ?_
 refine lm rfl rfl rfl rfl rfl ?_
 refine lo rfl (pr_cmp (bo := .eql) (nc_eq (a := 0) (b := 0)) rfl rfl rfl rfl) rfl rfl ?_
 refine lo rfl (pr_pick_t rfl rfl rfl) rfl rfl ?_
 refine lm rfl rfl rfl rfl rfl ?_
 refine lm rfl rfl rfl rfl rfl ?_
 refine lo rfl (pr_len_sl Try.underlying25 rfl rfl) rfl rfl ?_
 refine lm rfl rfl rfl rfl rfl ?_
 refine lo rfl (pr_len_sl Try.underlying25 rfl rfl) rfl rfl ?_
 refine lo rfl (pr_add (na_i64 (a := 0) (b := 16) sd) rfl rfl rfl) rfl rfl ?_
 refine lo rfl (pr_cmp (bo := .eql) (nc_eq (a := 0 + 16) (b := 16)) rfl rfl rfl rfl) rfl rfl ?_
 refine lo rfl (pr_pick_t rfl rfl rfl) rfl rfl ?_
 refine lm rfl rfl rfl rfl rfl ?_
 refine T_slot 77 (.bool (0 + 16 == 16)) (.bool true) rfl (congrArg _ (by rfl)) ?_
 refine lm rfl rfl rfl rfl rfl ?_
 refine lo rfl (pr_cmp (bo := .neq) (nc_ne (a := 6) (b := 5)) rfl rfl rfl rfl) rfl rfl ?_
 refine lo rfl (pr_pick_t rfl rfl rfl) rfl rfl ?_
 refine lm rfl rfl rfl rfl rfl ?_
 refine lm rfl rfl rfl rfl rfl ?_
 refine lo rfl (pr_cmp (bo := .neq) (nc_ne (a := 6) (b := 3)) rfl rfl rfl rfl) rfl rfl ?_
 refine lo rfl (pr_pick_t rfl rfl rfl) rfl rfl ?_
 refine lm rfl rfl rfl rfl rfl ?_
 refine lm rfl rfl rfl rfl rfl ?_
 refine lo rfl (pr_cmp (bo := .eql) (nc_eq (a := 0) (b := 0)) rfl rfl rfl rfl) rfl rfl ?_
 refine lo rfl (pr_pick_t rfl rfl rfl) rfl rfl ?_
 refine lm rfl rfl rfl rfl rfl ?_
 refine lm rfl rfl rfl rfl rfl ?_
 refine lm rfl rfl rfl rfl rfl ?_
 refine L_op rfl (op_cn (fun w hw => bytes_f (aplain [0#8, 0#8, 0#8, 0#8, 0#8, 0#8, 0#8, 0#8, 0#8, 0#8, 0#8, 0#8, 0#8, 0#8, 0#8, 0#8, 0#8, 0#8, 0#8, 0#8, 0#8, 0#8, 0#8, 0#8, 0#8, 0#8, 0#8, 0#8, 0#8, 0#8, 0#8, 0#8] [0#8, 0#8, 0#8, 0#8, 0#8, 0#8, 0#8, 0#8, 0#8, 0#8, 0#8, 0#8] (aseal [0#8, 0#8, 0#8, 0#8, 0#8, 0#8, 0#8, 0#8, 0#8, 0#8, 0#8, 0#8, 0#8, 0#8, 0#8, 0#8, 0#8, 0#8, 0#8, 0#8, 0#8, 0#8, 0#8, 0#8, 0#8, 0#8, 0#8, 0#8, 0#8, 0#8, 0#8, 0#8] [0#8, 0#8, 0#8, 0#8, 0#8, 0#8, 0#8, 0#8, 0#8, 0#8, 0#8, 0#8] (List.replicate nn 0#8) [])) [] B12 ((0 + 16) - 16) d13 none 0 0 w (hok_cons ((src_row 0 rfl) w hw) (hok_cons ((src_nil 1) w hw) (hok_nil w))) ) (enters_of Try.func26 kr rfl) rfl rfl rfl rfl rfl (fun t17 q18 => ?_))
 refine lo rfl (pr_pick_t rfl rfl rfl) rfl rfl ?_
 refine la rfl rfl rfl rfl rfl ?_
 refine L_nil ?_
 refine T_ret ?_
 refine T_slot 4 _ (.bool true) rfl (by first | (rw [aplain_seal]; simp; done) | (simp; done) | rfl) ?_
 exact T_fin () (by first | trivial | omega | (simp; done)) (res1 rfl rfl) [] ⟨by decide, rfl⟩ rfl
set_option maxRecDepth 100000 in
set_option maxHeartbeats 4000000 in
theorem limit_op_f (nn : Nat) (w : World) (hO : HOK [] w) (hnn : nn = 65536) (hg : agood [0#8, 0#8, 0#8, 0#8, 0#8, 0#8, 0#8, 0#8, 0#8, 0#8, 0#8, 0#8, 0#8, 0#8, 0#8, 0#8, 0#8, 0#8, 0#8, 0#8, 0#8, 0#8, 0#8, 0#8, 0#8, 0#8, 0#8, 0#8, 0#8, 0#8, 0#8, 0#8] [0#8, 0#8, 0#8, 0#8, 0#8, 0#8, 0#8, 0#8, 0#8, 0#8, 0#8, 0#8] [] (List.take (nn + 16) (List.drop 0 (List.replicate (nn + 16) 0#8)))) : Calls Try.prog 12 [(.bool false), (.bool false)].toArray w (Ret (T := Unit) [] w (fun _ => True) (fun _ => (.bool true)) (fun _ => [])) := by
 have hsl : (aseal [0#8, 0#8, 0#8, 0#8, 0#8, 0#8, 0#8, 0#8, 0#8, 0#8, 0#8, 0#8, 0#8, 0#8, 0#8, 0#8, 0#8, 0#8, 0#8, 0#8, 0#8, 0#8, 0#8, 0#8, 0#8, 0#8, 0#8, 0#8, 0#8, 0#8, 0#8, 0#8] [0#8, 0#8, 0#8, 0#8, 0#8, 0#8, 0#8, 0#8, 0#8, 0#8, 0#8, 0#8] (List.replicate nn 0#8) []).length = 0 + 16 := by rw [aseal_len]; rfl
 have hsl2 : (aseal [0#8, 0#8, 0#8, 0#8, 0#8, 0#8, 0#8, 0#8, 0#8, 0#8, 0#8, 0#8, 0#8, 0#8, 0#8, 0#8, 0#8, 0#8, 0#8, 0#8, 0#8, 0#8, 0#8, 0#8, 0#8, 0#8, 0#8, 0#8, 0#8, 0#8, 0#8, 0#8] [0#8, 0#8, 0#8, 0#8, 0#8, 0#8, 0#8, 0#8, 0#8, 0#8, 0#8, 0#8] [] (List.replicate nn 0#8)).length = nn + 16 := by rw [aseal_len, List.length_replicate]
 have hF : Wid Fence.wide := wid_wide
 refine enter (c := _) Try.func12 rfl [] [(.bool false), (.bool false)] [] (by rw [Try.ntmps12]; rfl) (own_rds hO rfl) ?_
 rw [Try.ntmps12]
 refine T_re [(0, (.bool false)), (1, (.bool false))] (sc rfl (sc rfl sn)) ?_
 refine T_he [] [] ⟨by decide, rfl⟩ ?_
 refine Tsr hF rfl ?_
 refine la rfl rfl rfl rfl rfl ?_
 refine L_nil ?_
 refine Tsr hF rfl ?_
 refine la rfl rfl rfl rfl rfl ?_
 refine T_slot 5 (.int .i64 ((65536 : Nat) : Int)) (.int .i64 ((nn : Nat) : Int)) rfl (by rw [hnn]) ?_
 refine L_nil ?_
 refine T_seq ?_
 refine Tsr hF rfl ?_
 refine lm rfl rfl rfl rfl rfl ?_
 refine L_nil ?_
 refine T_cond_f rfl ?_
 refine T_skip ?_
 refine Tsr hF rfl ?_
 refine lm rfl rfl rfl rfl rfl ?_
 refine L_op rfl (op_make (z := (b8 (0#8))) (n := nn) (c := nn) Try.underlying25 (bytes := 1) kr rfl sd sd sd rfl rfl rfl rfl rfl (fun g1 => ?_))
 refine T_as 0 _ (.blk g1 5 ((List.replicate nn 0#8).map b8)) rfl (by rw [List.map_replicate]) ?_
 refine la rfl rfl rfl rfl rfl ?_
 refine la rfl rfl rfl rfl rfl ?_
 refine L_nil ?_
 refine T_seq ?_
 refine Tsr hF rfl ?_
 refine lm rfl rfl rfl rfl rfl ?_
 refine L_nil ?_
 refine T_cond_f rfl ?_
 refine T_skip ?_
 refine Tsr hF rfl ?_
 refine lo rfl (pr_build (qs := []) (v := .agg ([0#8, 0#8, 0#8, 0#8, 0#8, 0#8, 0#8, 0#8, 0#8, 0#8, 0#8, 0#8, 0#8, 0#8, 0#8, 0#8, 0#8, 0#8, 0#8, 0#8, 0#8, 0#8, 0#8, 0#8, 0#8, 0#8, 0#8, 0#8, 0#8, 0#8, 0#8, 0#8].map b8).toArray) (fun _ => by kernel_rfl) rfl rfl) rfl rfl ?_
 refine lo rfl (pr_build (qs := []) (v := .agg ([0#8, 0#8, 0#8, 0#8, 0#8, 0#8, 0#8, 0#8, 0#8, 0#8, 0#8, 0#8].map b8).toArray) (fun _ => by kernel_rfl) rfl rfl) rfl rfl ?_
 refine lm rfl rfl rfl rfl rfl ?_
 refine lm rfl rfl rfl rfl rfl ?_
 refine L_op rfl (op_cn (fun w hw => seal_f [0#8, 0#8, 0#8, 0#8, 0#8, 0#8, 0#8, 0#8, 0#8, 0#8, 0#8, 0#8, 0#8, 0#8, 0#8, 0#8, 0#8, 0#8, 0#8, 0#8, 0#8, 0#8, 0#8, 0#8, 0#8, 0#8, 0#8, 0#8, 0#8, 0#8, 0#8, 0#8] [0#8, 0#8, 0#8, 0#8, 0#8, 0#8, 0#8, 0#8, 0#8, 0#8, 0#8, 0#8] [] (List.replicate nn 0#8) none 0 0 (some ⟨g1, 0, none⟩) nn nn w (hok_cons ((src_nil 1) w hw) (hok_cons ((src_full (z := 1) 0 rfl sd sd sd) w hw) (hok_nil w))) (by first | assumption | exact sd) (by first | assumption | exact sd) (by first | assumption | exact sd) (by first | assumption | exact sd) sd sd) (enters_of Try.func24 kr rfl) rfl rfl rfl rfl rfl (fun t2 q3 => ?_))
 obtain ⟨B4, d5⟩ := t2
 refine lm rfl rfl rfl rfl rfl ?_
 refine lo rfl (pr_ext (vs := [(.slice B4 (nn + 16) d5), (.int .i64 ((0 : Nat) : Int))]) rfl rfl rfl) rfl rfl ?_
 refine lo rfl (pr_ext (vs := [(.slice B4 (nn + 16) d5), (.int .i64 ((0 : Nat) : Int))]) rfl rfl rfl) rfl rfl ?_
 refine la rfl rfl rfl rfl rfl ?_
 refine la rfl rfl rfl rfl rfl ?_
 refine L_nil ?_
 refine Tsr hF rfl ?_
 refine lo rfl (pr_build (qs := []) (v := .agg ([0#8, 0#8, 0#8, 0#8, 0#8, 0#8, 0#8, 0#8, 0#8, 0#8, 0#8, 0#8, 0#8, 0#8, 0#8, 0#8, 0#8, 0#8, 0#8, 0#8, 0#8, 0#8, 0#8, 0#8, 0#8, 0#8, 0#8, 0#8, 0#8, 0#8, 0#8, 0#8].map b8).toArray) (fun _ => by kernel_rfl) rfl rfl) rfl rfl ?_
 refine lo rfl (pr_build (qs := []) (v := .agg ([0#8, 0#8, 0#8, 0#8, 0#8, 0#8, 0#8, 0#8, 0#8, 0#8, 0#8, 0#8].map b8).toArray) (fun _ => by kernel_rfl) rfl rfl) rfl rfl ?_
 refine lm rfl rfl rfl rfl rfl ?_
 refine lm rfl rfl rfl rfl rfl ?_
 refine lo rfl (pr_len_sl Try.underlying25 rfl rfl) rfl rfl ?_
 refine lo rfl (pr_add (na_i64 (a := nn) (b := 16) sd) rfl rfl rfl) rfl rfl ?_
 refine L_op rfl (op_make (z := (b8 (0#8))) (n := nn + 16) (c := nn + 16) Try.underlying25 (bytes := 1) kr rfl sd sd sd rfl rfl rfl rfl rfl (fun g6 => ?_))
 refine T_as 0 _ (.blk g6 5 ((List.replicate (nn + 16) 0#8).map b8)) rfl (by rw [List.map_replicate]) ?_
 refine L_op rfl (op_cn (fun w hw => open_ok_f [0#8, 0#8, 0#8, 0#8, 0#8, 0#8, 0#8, 0#8, 0#8, 0#8, 0#8, 0#8, 0#8, 0#8, 0#8, 0#8, 0#8, 0#8, 0#8, 0#8, 0#8, 0#8, 0#8, 0#8, 0#8, 0#8, 0#8, 0#8, 0#8, 0#8, 0#8, 0#8] [0#8, 0#8, 0#8, 0#8, 0#8, 0#8, 0#8, 0#8, 0#8, 0#8, 0#8, 0#8] [] (List.take (nn + 16) (List.drop 0 (List.replicate (nn + 16) 0#8))) none 0 0 (some ⟨g6, 0, none⟩) (nn + 16) (nn + 16) w (hok_cons ((src_nil 1) w hw) (hok_cons ((src_sub 0 rfl sd sd sd) w hw) (hok_nil w))) (by first | assumption | exact sd) (by first | assumption | exact sd) (by first | assumption | exact sd) (by first | assumption | exact sd) sd sd sd hg) (enters_of Try.func27 kr rfl) rfl rfl rfl rfl rfl (fun t7 q8 => ?_))
 obtain ⟨B9, d10⟩ := t7
 refine lm rfl rfl rfl rfl rfl ?_
 refine lo rfl (pr_ext (vs := [(.slice B9 ((nn + 16) - 16) d10), (.int .i64 ((0 : Nat) : Int))]) rfl rfl rfl) rfl rfl ?_
 refine lo rfl (pr_ext (vs := [(.slice B9 ((nn + 16) - 16) d10), (.int .i64 ((0 : Nat) : Int))]) rfl rfl rfl) rfl rfl ?_
 refine la rfl rfl rfl rfl rfl ?_
 refine la rfl rfl rfl rfl rfl ?_
 refine L_nil ?_
 refine T_seq ?_
 refine Tsr hF rfl ?_
 refine lm rfl rfl rfl rfl rfl ?_
 refine L_nil ?_
 refine T_cond_f rfl ?_
 refine T_skip ?_
 refine Tsr hF rfl ?_
 refine lo rfl (pr_build (qs := []) (v := .agg ([0#8, 0#8, 0#8, 0#8, 0#8, 0#8, 0#8, 0#8, 0#8, 0#8, 0#8, 0#8, 0#8, 0#8, 0#8, 0#8, 0#8, 0#8, 0#8, 0#8, 0#8, 0#8, 0#8, 0#8, 0#8, 0#8, 0#8, 0#8, 0#8, 0#8, 0#8, 0#8].map b8).toArray) (fun _ => by kernel_rfl) rfl rfl) rfl rfl ?_
 refine lo rfl (pr_build (qs := []) (v := .agg ([0#8, 0#8, 0#8, 0#8, 0#8, 0#8, 0#8, 0#8, 0#8, 0#8, 0#8, 0#8].map b8).toArray) (fun _ => by kernel_rfl) rfl rfl) rfl rfl ?_
 refine lm rfl rfl rfl rfl rfl ?_
 refine lm rfl rfl rfl rfl rfl ?_
 refine L_op rfl (op_cn (fun w hw => open_ok_f [0#8, 0#8, 0#8, 0#8, 0#8, 0#8, 0#8, 0#8, 0#8, 0#8, 0#8, 0#8, 0#8, 0#8, 0#8, 0#8, 0#8, 0#8, 0#8, 0#8, 0#8, 0#8, 0#8, 0#8, 0#8, 0#8, 0#8, 0#8, 0#8, 0#8, 0#8, 0#8] [0#8, 0#8, 0#8, 0#8, 0#8, 0#8, 0#8, 0#8, 0#8, 0#8, 0#8, 0#8] [] (aseal [0#8, 0#8, 0#8, 0#8, 0#8, 0#8, 0#8, 0#8, 0#8, 0#8, 0#8, 0#8, 0#8, 0#8, 0#8, 0#8, 0#8, 0#8, 0#8, 0#8, 0#8, 0#8, 0#8, 0#8, 0#8, 0#8, 0#8, 0#8, 0#8, 0#8, 0#8, 0#8] [0#8, 0#8, 0#8, 0#8, 0#8, 0#8, 0#8, 0#8, 0#8, 0#8, 0#8, 0#8] [] (List.replicate nn 0#8)) none 0 0 B4 (nn + 16) d5 w (hok_cons ((src_nil 1) w hw) (hok_cons ((src_row 2 rfl) w hw) (hok_nil w))) (by first | assumption | exact sd) (by first | assumption | exact sd) (by first | assumption | exact sd) (by first | assumption | exact sd) sd sd sd (agood_seal _ _ _ _)) (enters_of Try.func27 kr rfl) rfl rfl rfl rfl rfl (fun t11 q12 => ?_))
 obtain ⟨B13, d14⟩ := t11
 refine lm rfl rfl rfl rfl rfl ?_
 refine lo rfl (pr_ext (vs := [(.slice B13 ((nn + 16) - 16) d14), (.int .i64 ((0 : Nat) : Int))]) rfl rfl rfl) rfl rfl ?_
 refine lo rfl (pr_ext (vs := [(.slice B13 ((nn + 16) - 16) d14), (.int .i64 ((0 : Nat) : Int))]) rfl rfl rfl) rfl rfl ?_
 refine la rfl rfl rfl rfl rfl ?_
 refine la rfl rfl rfl rfl rfl ?_
 refine L_nil ?_
 refine Tsr hF rfl ?_
 refine L_op rfl (op_cn (fun w hw => awake7_f  w (hok_nil w) ) (enters_of Try.func23 kr rfl) rfl rfl rfl rfl rfl (fun t15 q16 => ?_))
 refine lm rfl rfl rfl rfl rfl ?_
 refine lm rfl rfl rfl rfl rfl ?_
 refine lo rfl (pr_cmp (bo := .eql) (nc_eq (a := 0) (b := 0)) rfl rfl rfl rfl) rfl rfl ?_
 refine lo rfl (pr_pick_t rfl rfl rfl) rfl rfl ?_
 refine lm rfl rfl rfl rfl rfl ?_
 refine lm rfl rfl rfl rfl rfl ?_
 refine lo rfl (pr_len_sl Try.underlying25 rfl rfl) rfl rfl ?_
 refine lm rfl rfl rfl rfl rfl ?_
 refine lo rfl (pr_len_sl Try.underlying25 rfl rfl) rfl rfl ?_
 refine lo rfl (pr_add (na_i64 (a := nn) (b := 16) sd) rfl rfl rfl) rfl rfl ?_
 refine lo rfl (pr_cmp (bo := .eql) (nc_eq (a := nn + 16) (b := nn + 16)) rfl rfl rfl rfl) rfl rfl ?_
 refine lo rfl (pr_pick_t rfl rfl rfl) rfl rfl ?_
 refine lm rfl rfl rfl rfl rfl ?_
 refine T_slot 77 (.bool (nn + 16 == nn + 16)) (.bool true) rfl (congrArg _ (by simp)) ?_
 refine lm rfl rfl rfl rfl rfl ?_
 refine lo rfl (pr_cmp (bo := .neq) (nc_ne (a := 0) (b := 5)) rfl rfl rfl rfl) rfl rfl ?_
 refine lo rfl (pr_pick_t rfl rfl rfl) rfl rfl ?_
 refine lm rfl rfl rfl rfl rfl ?_
 refine lm rfl rfl rfl rfl rfl ?_
 refine lo rfl (pr_cmp (bo := .neq) (nc_ne (a := 0) (b := 3)) rfl rfl rfl rfl) rfl rfl ?_
 refine lo rfl (pr_pick_t rfl rfl rfl) rfl rfl ?_
 refine lm rfl rfl rfl rfl rfl ?_
 refine lm rfl rfl rfl rfl rfl ?_
 refine lo rfl (pr_cmp (bo := .eql) (nc_eq (a := 0) (b := 0)) rfl rfl rfl rfl) rfl rfl ?_
 refine lo rfl (pr_pick_t rfl rfl rfl) rfl rfl ?_
 refine lm rfl rfl rfl rfl rfl ?_
 refine lm rfl rfl rfl rfl rfl ?_
 refine lm rfl rfl rfl rfl rfl ?_
 refine L_op rfl (op_cn (fun w hw => bytes_f (aplain [0#8, 0#8, 0#8, 0#8, 0#8, 0#8, 0#8, 0#8, 0#8, 0#8, 0#8, 0#8, 0#8, 0#8, 0#8, 0#8, 0#8, 0#8, 0#8, 0#8, 0#8, 0#8, 0#8, 0#8, 0#8, 0#8, 0#8, 0#8, 0#8, 0#8, 0#8, 0#8] [0#8, 0#8, 0#8, 0#8, 0#8, 0#8, 0#8, 0#8, 0#8, 0#8, 0#8, 0#8] (aseal [0#8, 0#8, 0#8, 0#8, 0#8, 0#8, 0#8, 0#8, 0#8, 0#8, 0#8, 0#8, 0#8, 0#8, 0#8, 0#8, 0#8, 0#8, 0#8, 0#8, 0#8, 0#8, 0#8, 0#8, 0#8, 0#8, 0#8, 0#8, 0#8, 0#8, 0#8, 0#8] [0#8, 0#8, 0#8, 0#8, 0#8, 0#8, 0#8, 0#8, 0#8, 0#8, 0#8, 0#8] [] (List.replicate nn 0#8))) (List.replicate nn 0#8) B13 ((nn + 16) - 16) d14 (some ⟨g1, 0, none⟩) nn nn w (hok_cons ((src_row 0 rfl) w hw) (hok_cons ((src_full (z := 1) 4 rfl sd sd sd) w hw) (hok_nil w))) ) (enters_of Try.func26 kr rfl) rfl rfl rfl rfl rfl (fun t18 q19 => ?_))
 refine lo rfl (pr_pick_t rfl rfl rfl) rfl rfl ?_
 refine la rfl rfl rfl rfl rfl ?_
 refine L_nil ?_
 refine T_ret ?_
 refine T_slot 4 _ (.bool true) rfl (by first | (rw [aplain_seal]; simp; done) | (simp; done) | rfl) ?_
 exact T_fin () (by first | trivial | omega | (simp; done)) (res1 rfl rfl) [] ⟨by decide, rfl⟩ rfl
set_option maxRecDepth 100000 in
set_option maxHeartbeats 4000000 in
theorem limit_bp_f (nn : Nat) (w : World) (hO : HOK [] w) (hnn : nn = 65536) (hg : ¬ agood [0#8, 0#8, 0#8, 0#8, 0#8, 0#8, 0#8, 0#8, 0#8, 0#8, 0#8, 0#8, 0#8, 0#8, 0#8, 0#8, 0#8, 0#8, 0#8, 0#8, 0#8, 0#8, 0#8, 0#8, 0#8, 0#8, 0#8, 0#8, 0#8, 0#8, 0#8, 0#8] [0#8, 0#8, 0#8, 0#8, 0#8, 0#8, 0#8, 0#8, 0#8, 0#8, 0#8, 0#8] [] (List.take (nn + 16) (List.drop 0 (List.replicate (nn + 16) 0#8)))) : Calls Try.prog 12 [(.bool false), (.bool false)].toArray w (Ret (T := Unit) [] w (fun _ => True) (fun _ => (.bool true)) (fun _ => [])) := by
 have hsl : (aseal [0#8, 0#8, 0#8, 0#8, 0#8, 0#8, 0#8, 0#8, 0#8, 0#8, 0#8, 0#8, 0#8, 0#8, 0#8, 0#8, 0#8, 0#8, 0#8, 0#8, 0#8, 0#8, 0#8, 0#8, 0#8, 0#8, 0#8, 0#8, 0#8, 0#8, 0#8, 0#8] [0#8, 0#8, 0#8, 0#8, 0#8, 0#8, 0#8, 0#8, 0#8, 0#8, 0#8, 0#8] (List.replicate nn 0#8) []).length = 0 + 16 := by rw [aseal_len]; rfl
 have hsl2 : (aseal [0#8, 0#8, 0#8, 0#8, 0#8, 0#8, 0#8, 0#8, 0#8, 0#8, 0#8, 0#8, 0#8, 0#8, 0#8, 0#8, 0#8, 0#8, 0#8, 0#8, 0#8, 0#8, 0#8, 0#8, 0#8, 0#8, 0#8, 0#8, 0#8, 0#8, 0#8, 0#8] [0#8, 0#8, 0#8, 0#8, 0#8, 0#8, 0#8, 0#8, 0#8, 0#8, 0#8, 0#8] [] (List.replicate nn 0#8)).length = nn + 16 := by rw [aseal_len, List.length_replicate]
 have hF : Wid Fence.wide := wid_wide
 refine enter (c := _) Try.func12 rfl [] [(.bool false), (.bool false)] [] (by rw [Try.ntmps12]; rfl) (own_rds hO rfl) ?_
 rw [Try.ntmps12]
 refine T_re [(0, (.bool false)), (1, (.bool false))] (sc rfl (sc rfl sn)) ?_
 refine T_he [] [] ⟨by decide, rfl⟩ ?_
 refine Tsr hF rfl ?_
 refine la rfl rfl rfl rfl rfl ?_
 refine L_nil ?_
 refine Tsr hF rfl ?_
 refine la rfl rfl rfl rfl rfl ?_
 refine T_slot 5 (.int .i64 ((65536 : Nat) : Int)) (.int .i64 ((nn : Nat) : Int)) rfl (by rw [hnn]) ?_
 refine L_nil ?_
 refine T_seq ?_
 refine Tsr hF rfl ?_
 refine lm rfl rfl rfl rfl rfl ?_
 refine L_nil ?_
 refine T_cond_f rfl ?_
 refine T_skip ?_
 refine Tsr hF rfl ?_
 refine lm rfl rfl rfl rfl rfl ?_
 refine L_op rfl (op_make (z := (b8 (0#8))) (n := nn) (c := nn) Try.underlying25 (bytes := 1) kr rfl sd sd sd rfl rfl rfl rfl rfl (fun g1 => ?_))
 refine T_as 0 _ (.blk g1 5 ((List.replicate nn 0#8).map b8)) rfl (by rw [List.map_replicate]) ?_
 refine la rfl rfl rfl rfl rfl ?_
 refine la rfl rfl rfl rfl rfl ?_
 refine L_nil ?_
 refine T_seq ?_
 refine Tsr hF rfl ?_
 refine lm rfl rfl rfl rfl rfl ?_
 refine L_nil ?_
 refine T_cond_f rfl ?_
 refine T_skip ?_
 refine Tsr hF rfl ?_
 refine lo rfl (pr_build (qs := []) (v := .agg ([0#8, 0#8, 0#8, 0#8, 0#8, 0#8, 0#8, 0#8, 0#8, 0#8, 0#8, 0#8, 0#8, 0#8, 0#8, 0#8, 0#8, 0#8, 0#8, 0#8, 0#8, 0#8, 0#8, 0#8, 0#8, 0#8, 0#8, 0#8, 0#8, 0#8, 0#8, 0#8].map b8).toArray) (fun _ => by kernel_rfl) rfl rfl) rfl rfl ?_
 refine lo rfl (pr_build (qs := []) (v := .agg ([0#8, 0#8, 0#8, 0#8, 0#8, 0#8, 0#8, 0#8, 0#8, 0#8, 0#8, 0#8].map b8).toArray) (fun _ => by kernel_rfl) rfl rfl) rfl rfl ?_
 refine lm rfl rfl rfl rfl rfl ?_
 refine lm rfl rfl rfl rfl rfl ?_
 refine L_op rfl (op_cn (fun w hw => seal_f [0#8, 0#8, 0#8, 0#8, 0#8, 0#8, 0#8, 0#8, 0#8, 0#8, 0#8, 0#8, 0#8, 0#8, 0#8, 0#8, 0#8, 0#8, 0#8, 0#8, 0#8, 0#8, 0#8, 0#8, 0#8, 0#8, 0#8, 0#8, 0#8, 0#8, 0#8, 0#8] [0#8, 0#8, 0#8, 0#8, 0#8, 0#8, 0#8, 0#8, 0#8, 0#8, 0#8, 0#8] [] (List.replicate nn 0#8) none 0 0 (some ⟨g1, 0, none⟩) nn nn w (hok_cons ((src_nil 1) w hw) (hok_cons ((src_full (z := 1) 0 rfl sd sd sd) w hw) (hok_nil w))) (by first | assumption | exact sd) (by first | assumption | exact sd) (by first | assumption | exact sd) (by first | assumption | exact sd) sd sd) (enters_of Try.func24 kr rfl) rfl rfl rfl rfl rfl (fun t2 q3 => ?_))
 obtain ⟨B4, d5⟩ := t2
 refine lm rfl rfl rfl rfl rfl ?_
 refine lo rfl (pr_ext (vs := [(.slice B4 (nn + 16) d5), (.int .i64 ((0 : Nat) : Int))]) rfl rfl rfl) rfl rfl ?_
 refine lo rfl (pr_ext (vs := [(.slice B4 (nn + 16) d5), (.int .i64 ((0 : Nat) : Int))]) rfl rfl rfl) rfl rfl ?_
 refine la rfl rfl rfl rfl rfl ?_
 refine la rfl rfl rfl rfl rfl ?_
 refine L_nil ?_
 refine Tsr hF rfl ?_
 refine lo rfl (pr_build (qs := []) (v := .agg ([0#8, 0#8, 0#8, 0#8, 0#8, 0#8, 0#8, 0#8, 0#8, 0#8, 0#8, 0#8, 0#8, 0#8, 0#8, 0#8, 0#8, 0#8, 0#8, 0#8, 0#8, 0#8, 0#8, 0#8, 0#8, 0#8, 0#8, 0#8, 0#8, 0#8, 0#8, 0#8].map b8).toArray) (fun _ => by kernel_rfl) rfl rfl) rfl rfl ?_
 refine lo rfl (pr_build (qs := []) (v := .agg ([0#8, 0#8, 0#8, 0#8, 0#8, 0#8, 0#8, 0#8, 0#8, 0#8, 0#8, 0#8].map b8).toArray) (fun _ => by kernel_rfl) rfl rfl) rfl rfl ?_
 refine lm rfl rfl rfl rfl rfl ?_
 refine lm rfl rfl rfl rfl rfl ?_
 refine lo rfl (pr_len_sl Try.underlying25 rfl rfl) rfl rfl ?_
 refine lo rfl (pr_add (na_i64 (a := nn) (b := 16) sd) rfl rfl rfl) rfl rfl ?_
 refine L_op rfl (op_make (z := (b8 (0#8))) (n := nn + 16) (c := nn + 16) Try.underlying25 (bytes := 1) kr rfl sd sd sd rfl rfl rfl rfl rfl (fun g6 => ?_))
 refine T_as 0 _ (.blk g6 5 ((List.replicate (nn + 16) 0#8).map b8)) rfl (by rw [List.map_replicate]) ?_
 refine L_op rfl (op_cn (fun w hw => open_bad_f [0#8, 0#8, 0#8, 0#8, 0#8, 0#8, 0#8, 0#8, 0#8, 0#8, 0#8, 0#8, 0#8, 0#8, 0#8, 0#8, 0#8, 0#8, 0#8, 0#8, 0#8, 0#8, 0#8, 0#8, 0#8, 0#8, 0#8, 0#8, 0#8, 0#8, 0#8, 0#8] [0#8, 0#8, 0#8, 0#8, 0#8, 0#8, 0#8, 0#8, 0#8, 0#8, 0#8, 0#8] [] (List.take (nn + 16) (List.drop 0 (List.replicate (nn + 16) 0#8))) none 0 0 (some ⟨g6, 0, none⟩) (nn + 16) (nn + 16) w (hok_cons ((src_nil 1) w hw) (hok_cons ((src_sub 0 rfl sd sd sd) w hw) (hok_nil w))) (by first | assumption | exact sd) (by first | assumption | exact sd) (by first | assumption | exact sd) (by first | assumption | exact sd) sd sd sd hg) (enters_of Try.func27 kr rfl) rfl rfl rfl rfl rfl (fun t7 q8 => ?_))
 refine lm rfl rfl rfl rfl rfl ?_
 refine lo rfl (pr_ext (vs := [(.slice none 0 0), (.int .i64 ((6 : Nat) : Int))]) rfl rfl rfl) rfl rfl ?_
 refine lo rfl (pr_ext (vs := [(.slice none 0 0), (.int .i64 ((6 : Nat) : Int))]) rfl rfl rfl) rfl rfl ?_
 refine la rfl rfl rfl rfl rfl ?_
 refine la rfl rfl rfl rfl rfl ?_
 refine L_nil ?_
 refine T_seq ?_
 refine Tsr hF rfl ?_
 refine lm rfl rfl rfl rfl rfl ?_
 refine L_nil ?_
 refine T_cond_f rfl ?_
 refine T_skip ?_
 refine Tsr hF rfl ?_
 refine lo rfl (pr_build (qs := []) (v := .agg ([0#8, 0#8, 0#8, 0#8, 0#8, 0#8, 0#8, 0#8, 0#8, 0#8, 0#8, 0#8, 0#8, 0#8, 0#8, 0#8, 0#8, 0#8, 0#8, 0#8, 0#8, 0#8, 0#8, 0#8, 0#8, 0#8, 0#8, 0#8, 0#8, 0#8, 0#8, 0#8].map b8).toArray) (fun _ => by kernel_rfl) rfl rfl) rfl rfl ?_
 refine lo rfl (pr_build (qs := []) (v := .agg ([0#8, 0#8, 0#8, 0#8, 0#8, 0#8, 0#8, 0#8, 0#8, 0#8, 0#8, 0#8].map b8).toArray) (fun _ => by kernel_rfl) rfl rfl) rfl rfl ?_
 refine lm rfl rfl rfl rfl rfl ?_
 refine lm rfl rfl rfl rfl rfl ?_
 refine L_op rfl (op_cn (fun w hw => open_ok_f [0#8, 0#8, 0#8, 0#8, 0#8, 0#8, 0#8, 0#8, 0#8, 0#8, 0#8, 0#8, 0#8, 0#8, 0#8, 0#8, 0#8, 0#8, 0#8, 0#8, 0#8, 0#8, 0#8, 0#8, 0#8, 0#8, 0#8, 0#8, 0#8, 0#8, 0#8, 0#8] [0#8, 0#8, 0#8, 0#8, 0#8, 0#8, 0#8, 0#8, 0#8, 0#8, 0#8, 0#8] [] (aseal [0#8, 0#8, 0#8, 0#8, 0#8, 0#8, 0#8, 0#8, 0#8, 0#8, 0#8, 0#8, 0#8, 0#8, 0#8, 0#8, 0#8, 0#8, 0#8, 0#8, 0#8, 0#8, 0#8, 0#8, 0#8, 0#8, 0#8, 0#8, 0#8, 0#8, 0#8, 0#8] [0#8, 0#8, 0#8, 0#8, 0#8, 0#8, 0#8, 0#8, 0#8, 0#8, 0#8, 0#8] [] (List.replicate nn 0#8)) none 0 0 B4 (nn + 16) d5 w (hok_cons ((src_nil 1) w hw) (hok_cons ((src_row 1 rfl) w hw) (hok_nil w))) (by first | assumption | exact sd) (by first | assumption | exact sd) (by first | assumption | exact sd) (by first | assumption | exact sd) sd sd sd (agood_seal _ _ _ _)) (enters_of Try.func27 kr rfl) rfl rfl rfl rfl rfl (fun t9 q10 => ?_))
 obtain ⟨B11, d12⟩ := t9
 refine lm rfl rfl rfl rfl rfl ?_
 refine lo rfl (pr_ext (vs := [(.slice B11 ((nn + 16) - 16) d12), (.int .i64 ((0 : Nat) : Int))]) rfl rfl rfl) rfl rfl ?_
 refine lo rfl (pr_ext (vs := [(.slice B11 ((nn + 16) - 16) d12), (.int .i64 ((0 : Nat) : Int))]) rfl rfl rfl) rfl rfl ?_
 refine la rfl rfl rfl rfl rfl ?_
 refine la rfl rfl rfl rfl rfl ?_
 refine L_nil ?_
 refine Tsr hF rfl ?_
 refine L_op rfl (op_cn (fun w hw => awake7_f  w (hok_nil w) ) (enters_of Try.func23 kr rfl) rfl rfl rfl rfl rfl (fun t13 q14 => ?_))
 refine lm rfl rfl rfl rfl rfl ?_
 refine lm rfl rfl rfl rfl rfl ?_
 refine lo rfl (pr_cmp (bo := .eql) (nc_eq (a := 0) (b := 0)) rfl rfl rfl rfl) rfl rfl ?_
 refine lo rfl (pr_pick_t rfl rfl rfl) rfl rfl ?_
 refine lm rfl rfl rfl rfl rfl ?_
 refine lm rfl rfl rfl rfl rfl ?_
 refine lo rfl (pr_len_sl Try.underlying25 rfl rfl) rfl rfl ?_
 refine lm rfl rfl rfl rfl rfl ?_
 refine lo rfl (pr_len_sl Try.underlying25 rfl rfl) rfl rfl ?_
 refine lo rfl (pr_add (na_i64 (a := nn) (b := 16) sd) rfl rfl rfl) rfl rfl ?_
 refine lo rfl (pr_cmp (bo := .eql) (nc_eq (a := nn + 16) (b := nn + 16)) rfl rfl rfl rfl) rfl rfl ?_
 refine lo rfl (pr_pick_t rfl rfl rfl) rfl rfl ?_
 refine lm rfl rfl rfl rfl rfl ?_
 refine T_slot 77 (.bool (nn + 16 == nn + 16)) (.bool true) rfl (congrArg _ (by simp)) ?_
 refine lm rfl rfl rfl rfl rfl ?_
 refine lo rfl (pr_cmp (bo := .neq) (nc_ne (a := 6) (b := 5)) rfl rfl rfl rfl) rfl rfl ?_
 refine lo rfl (pr_pick_t rfl rfl rfl) rfl rfl ?_
 refine lm rfl rfl rfl rfl rfl ?_
 refine lm rfl rfl rfl rfl rfl ?_
 refine lo rfl (pr_cmp (bo := .neq) (nc_ne (a := 6) (b := 3)) rfl rfl rfl rfl) rfl rfl ?_
 refine lo rfl (pr_pick_t rfl rfl rfl) rfl rfl ?_
 refine lm rfl rfl rfl rfl rfl ?_
 refine lm rfl rfl rfl rfl rfl ?_
 refine lo rfl (pr_cmp (bo := .eql) (nc_eq (a := 0) (b := 0)) rfl rfl rfl rfl) rfl rfl ?_
 refine lo rfl (pr_pick_t rfl rfl rfl) rfl rfl ?_
 refine lm rfl rfl rfl rfl rfl ?_
 refine lm rfl rfl rfl rfl rfl ?_
 refine lm rfl rfl rfl rfl rfl ?_
 refine L_op rfl (op_cn (fun w hw => bytes_f (aplain [0#8, 0#8, 0#8, 0#8, 0#8, 0#8, 0#8, 0#8, 0#8, 0#8, 0#8, 0#8, 0#8, 0#8, 0#8, 0#8, 0#8, 0#8, 0#8, 0#8, 0#8, 0#8, 0#8, 0#8, 0#8, 0#8, 0#8, 0#8, 0#8, 0#8, 0#8, 0#8] [0#8, 0#8, 0#8, 0#8, 0#8, 0#8, 0#8, 0#8, 0#8, 0#8, 0#8, 0#8] (aseal [0#8, 0#8, 0#8, 0#8, 0#8, 0#8, 0#8, 0#8, 0#8, 0#8, 0#8, 0#8, 0#8, 0#8, 0#8, 0#8, 0#8, 0#8, 0#8, 0#8, 0#8, 0#8, 0#8, 0#8, 0#8, 0#8, 0#8, 0#8, 0#8, 0#8, 0#8, 0#8] [0#8, 0#8, 0#8, 0#8, 0#8, 0#8, 0#8, 0#8, 0#8, 0#8, 0#8, 0#8] [] (List.replicate nn 0#8))) (List.replicate nn 0#8) B11 ((nn + 16) - 16) d12 (some ⟨g1, 0, none⟩) nn nn w (hok_cons ((src_row 0 rfl) w hw) (hok_cons ((src_full (z := 1) 3 rfl sd sd sd) w hw) (hok_nil w))) ) (enters_of Try.func26 kr rfl) rfl rfl rfl rfl rfl (fun t16 q17 => ?_))
 refine lo rfl (pr_pick_t rfl rfl rfl) rfl rfl ?_
 refine la rfl rfl rfl rfl rfl ?_
 refine L_nil ?_
 refine T_ret ?_
 refine T_slot 4 _ (.bool true) rfl (by first | (rw [aplain_seal]; simp; done) | (simp; done) | rfl) ?_
 exact T_fin () (by first | trivial | omega | (simp; done)) (res1 rfl rfl) [] ⟨by decide, rfl⟩ rfl
theorem aeadLimit_f (m b : Bool) (w : World) (hO : HOK [] w) : Calls Try.prog 12 [.bool m, .bool b].toArray w (Ret (T := Unit) [] w (fun _ => True) (fun _ => (.bool true)) (fun _ => [])) := by
  obtain ⟨n7, h7⟩ : ∃ x : Nat, x = 65537 := ⟨_, rfl⟩
  obtain ⟨n6, h6⟩ : ∃ x : Nat, x = 65536 := ⟨_, rfl⟩
  cases m
  · cases b
    · by_cases hg : agood [0#8, 0#8, 0#8, 0#8, 0#8, 0#8, 0#8, 0#8, 0#8, 0#8, 0#8, 0#8, 0#8, 0#8, 0#8, 0#8, 0#8, 0#8, 0#8, 0#8, 0#8, 0#8, 0#8, 0#8, 0#8, 0#8, 0#8, 0#8, 0#8, 0#8, 0#8, 0#8] [0#8, 0#8, 0#8, 0#8, 0#8, 0#8, 0#8, 0#8, 0#8, 0#8, 0#8, 0#8] [] (List.take (n6 + 16) (List.drop 0 (List.replicate (n6 + 16) 0#8)))
      · exact limit_op_f n6 w hO h6 hg
      · exact limit_bp_f n6 w hO h6 hg
    · by_cases hg : agood [0#8, 0#8, 0#8, 0#8, 0#8, 0#8, 0#8, 0#8, 0#8, 0#8, 0#8, 0#8, 0#8, 0#8, 0#8, 0#8, 0#8, 0#8, 0#8, 0#8, 0#8, 0#8, 0#8, 0#8, 0#8, 0#8, 0#8, 0#8, 0#8, 0#8, 0#8, 0#8] [0#8, 0#8, 0#8, 0#8, 0#8, 0#8, 0#8, 0#8, 0#8, 0#8, 0#8, 0#8] (List.replicate n6 0#8) (List.replicate 16 0#8)
      · exact limit_ob_f n6 w hO h6 hg
      · exact limit_bb_f n6 w hO h6 hg
  · cases b
    · exact limit_mp_f n7 w hO h7
    · exact limit_mb_f n7 w hO h7

end Go.Proofs.Ytemjinkdfjoicaa
