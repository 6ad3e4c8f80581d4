/- What the laws of layer 10 ask first. No conditions. -/
import Derived.Test.YtlplpmkdebemnaaGBlk1
import Derived.Test.YtlplpmkdebemnaaProg
import Derived.Test.YtlplpmkdebemnaaFwU
namespace Go.Proofs.Ytlplpmkdebemnaa
set_option linter.unusedVariables false
set_option linter.unusedSimpArgs false
set_option linter.unnecessarySimpa false
set_option maxRecDepth 100000
open Go.RowKit Bv Fw

theorem aw_e : bpe 1 ((2 : Nat) : Int) = 0 := by decide
theorem aw_l : bpl 1 ((2 : Nat) : Int) = 64 := by decide
theorem aw_b : (bpb [(Rc.mk false 1#64 0#64 0#64)] ((2 : Nat) : Int)).length = 64 := by rw [bpb_len (n := 1) rfl]; decide
theorem aw_8 : ath (bpb [(Rc.mk false 1#64 0#64 0#64)] ((2 : Nat) : Int)) 8 = 1#8 := by decide +kernel
theorem aw_32 : ath (bpb [(Rc.mk false 1#64 0#64 0#64)] ((2 : Nat) : Int)) 32 = 1#8 := by decide +kernel

set_option maxHeartbeats 4000000 in
theorem awake10_f  (w : World) (hO : HOK [] w)  : Calls Try.prog 10 [].toArray w (Ret (T := Unit) [] w (fun _ => True) (fun _ => (.bool true)) (fun _ => [])) := by
 have hF : Wid Fence.wide := wid_wide
 refine enter (c := _) Try.func10 rfl [] _ [] (by rw [Try.ntmps10]; rfl) (own_rds hO rfl) ?_
 rw [Try.ntmps10]
 refine T_re [] sn ?_
 refine T_he [] [] ⟨by decide, rfl⟩ ?_
 refine Tsr hF rfl ?_
 refine la rfl rfl rfl rfl rfl ?_
 refine L_nil ?_
 refine Tsr hF rfl ?_
 refine lo rfl (pr_build (qs := [(1, (.int .i64 ((1 : Nat) : Int)))]) (v := .agg [(.bool false), (.int .i64 ((1 : Nat) : Int)), (.int .i64 ((0 : Nat) : Int)), (.int .i64 ((0 : Nat) : Int))].toArray) (fun _ => by kernel_rfl) rfl rfl) rfl rfl ?_
 refine L_op rfl (op_bslice (e := 43) (zs := [(.bool false), (.int .i64 ((1 : Nat) : Int)), (.int .i64 ((0 : Nat) : Int)), (.int .i64 ((0 : Nat) : Int))]) (qs := [(0, (.agg [(.bool false), (.int .i64 ((1 : Nat) : Int)), (.int .i64 ((0 : Nat) : Int)), (.int .i64 ((0 : Nat) : Int))].toArray))]) (fun _ => by kernel_rfl) rfl rfl rfl rfl (fun g1 => ?_))
 refine L_op rfl (op_cn (fun w hw => bpack_f [(Rc.mk false 1#64 0#64 0#64)] ((2 : Nat) : Int) (some ⟨g1, 0, none⟩) 1 1 w (hok_cons ((src_blk (z := 4) (ds := [(.bool false), (.int .i64 ((1 : Nat) : Int)), (.int .i64 ((0 : Nat) : Int)), (.int .i64 ((0 : Nat) : Int))]) 0 rfl rfl rfl sd sd) w hw) (hok_nil w)) sd sd) (enters_of Try.func9 kr rfl) rfl rfl rfl rfl rfl (fun t2 q3 => ?_))
 obtain ⟨B4, e5⟩ := t2
 refine lm rfl rfl rfl rfl rfl ?_
 refine lo rfl (pr_ext (vs := [(.slice B4 (bpl 1 ((2 : Nat) : Int)) e5), (.int .i64 (((bpe 1 ((2 : Nat) : Int)) : Nat) : Int))]) rfl rfl rfl) rfl rfl ?_
 refine T_as 0 _ (.row (.slice B4 64 e5) 5 1 64 ((bpb [(Rc.mk false 1#64 0#64 0#64)] ((2 : Nat) : Int)).map b8)) rfl (by rw [aw_l]) ?_
 refine T_slot 7 _ (.slice B4 64 e5) rfl (by rw [aw_l]) ?_
 have hab := aw_b
 refine lo rfl (pr_ext (vs := [(.slice B4 (bpl 1 ((2 : Nat) : Int)) e5), (.int .i64 (((bpe 1 ((2 : Nat) : Int)) : Nat) : Int))]) rfl rfl rfl) rfl rfl ?_
 refine la rfl rfl rfl rfl rfl ?_
 refine la rfl rfl rfl rfl rfl ?_
 refine L_nil ?_
 refine Tsr hF rfl ?_
 refine lm rfl rfl rfl rfl rfl ?_
 refine lo rfl (pr_cmp (bo := .eql) (nc_eq (a := (bpe 1 ((2 : Nat) : Int))) (b := 0)) rfl rfl rfl rfl) rfl rfl ?_
 refine lm rfl rfl rfl rfl rfl ?_
 refine T_slot 11 (.bool ((bpe 1 ((2 : Nat) : Int)) == 0)) (.bool true) rfl (congrArg _ (by rw [aw_e]; rfl)) ?_
 refine lm rfl rfl rfl rfl rfl ?_
 refine lo rfl (pr_len_sl Try.underlying23 rfl rfl) rfl rfl ?_
 refine lo rfl (pr_cmp (bo := .eql) (nc_eq (a := 64) (b := 64)) rfl rfl rfl rfl) rfl rfl ?_
 refine lo rfl (pr_pick_t rfl rfl rfl) rfl rfl ?_
 refine lm rfl rfl rfl rfl rfl ?_
 refine lm rfl rfl rfl rfl rfl ?_
 refine lo rfl (pr_ixs1 (j := 8) (src_none (src_row 0 rfl)) sd Try.underlying23 kr rfl rfl rfl) rfl rfl ?_
 refine lq rfl (ld_src (m := 8) (src_row 0 rfl) (get8 sd) Try.underlying5 rfl rfl rfl) rfl rfl ?_
 refine lo rfl (pr_cmp (bo := .eql) (n8_beq (ath (bpb [(Rc.mk false 1#64 0#64 0#64)] ((2 : Nat) : Int)) 8) (1#8)) rfl rfl rfl rfl) rfl rfl ?_
 refine lo rfl (pr_pick_t rfl rfl rfl) rfl rfl ?_
 refine lm rfl rfl rfl rfl rfl ?_
 refine T_slot 22 _ (.bool true) rfl (congrArg _ (by rw [aw_8]; rfl)) ?_
 refine lm rfl rfl rfl rfl rfl ?_
 refine lo rfl (pr_ixs1 (j := 32) (src_none (src_row 0 rfl)) sd Try.underlying23 kr rfl rfl rfl) rfl rfl ?_
 refine lq rfl (ld_src (m := 32) (src_row 0 rfl) (get8 sd) Try.underlying5 rfl rfl rfl) rfl rfl ?_
 refine lo rfl (pr_cmp (bo := .eql) (n8_beq (ath (bpb [(Rc.mk false 1#64 0#64 0#64)] ((2 : Nat) : Int)) 32) (1#8)) rfl rfl rfl rfl) rfl rfl ?_
 refine lo rfl (pr_pick_t rfl rfl rfl) rfl rfl ?_
 refine lm rfl rfl rfl rfl rfl ?_
 refine T_slot 28 _ (.bool true) rfl (congrArg _ (by rw [aw_32]; rfl)) ?_
 refine L_op rfl (op_cn (fun w hw => bsize_f ((2 : Nat) : Int) w (hok_nil w) ) (enters_of Try.func24 kr rfl) rfl rfl rfl rfl rfl (fun t9 q10 => ?_))
 refine lo rfl (pr_cmp (bo := .eql) (k := .i64) (a := (bsz ((2 : Nat) : Int))) (b := ((80 : Nat) : Int)) (c := ((bsz ((2 : Nat) : Int)) == ((80 : Nat) : Int))) rfl rfl rfl rfl rfl) rfl rfl ?_
 refine lo rfl (pr_pick_t rfl rfl rfl) rfl rfl ?_
 refine la rfl rfl rfl rfl rfl ?_
 refine L_nil ?_
 refine T_ret ?_
 refine T_slot 0 (.bool ((bsz ((2 : Nat) : Int)) == ((80 : Nat) : Int))) (.bool true) rfl (by first | rfl | (simp; done)) ?_
 exact T_fin () (by first | trivial | omega | (simp; done)) (res1 rfl rfl) [] ⟨by decide, rfl⟩ rfl
end Go.Proofs.Ytlplpmkdebemnaa
