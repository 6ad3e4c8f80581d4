/- The law LetterPacks, by facts. No conditions. -/
import Derived.Test.YtlplpmkdebemnaaGLLeA
import Derived.Test.YtlplpmkdebemnaaProg
import Derived.Test.YtlplpmkdebemnaaFwU
namespace Go.Proofs.Ytlplpmkdebemnaa
set_option linter.unusedVariables false
set_option linter.unusedSimpArgs false
set_option linter.unnecessarySimpa false
set_option maxRecDepth 100000
open Go.RowKit Bv Fw

set_option maxHeartbeats 4000000 in
theorem letterPacks_f (vk : Int) (vf : Int) (vt : Int) (vs : BitVec 64) (vj : Int) (va : BitVec 64) (vr : BitVec 64) (vq : BitVec 64) (b : List (BitVec 8)) (A : Option Addr) (n : Nat) (c : Nat) (w : World) (hO : HOK [.rd A 1 n c (b.map b8)] w) (hb : b.length = n) : Calls Try.prog 4 [(.agg [(.int .i64 vk), (.int .i64 vf), (.int .i64 vt), (b64 vs), (.int .i64 vj), (b64 va), (b64 vr), (b64 vq)].toArray), (.slice A n c)].toArray w (Ret (T := Unit) [] w (fun _ => True) (fun _ => (.bool true)) (fun _ => [])) := by
 have hll := ltv_len b
 have hF : Wid Fence.wide := wid_wide
 refine enter (c := _) Try.func4 rfl [] _ [.rd A 1 n c (b.map b8)] (by rw [Try.ntmps4]; rfl) (own_rds hO rfl) ?_
 rw [Try.ntmps4]
 refine T_re [(0, (.agg [(.int .i64 vk), (.int .i64 vf), (.int .i64 vt), (b64 vs), (.int .i64 vj), (b64 va), (b64 vr), (b64 vq)].toArray)), (1, (.slice A n c))] (sc rfl (sc rfl sn)) ?_
 refine T_he [0] [.rd A 1 n c (b.map b8)] ⟨by decide, rfl⟩ ?_
 refine Tsr hF rfl ?_
 refine L_op rfl (op_box (zs := [(.int .i64 vk), (.int .i64 vf), (.int .i64 vt), (b64 vs), (.int .i64 vj), (b64 va), (b64 vr), (b64 vq)]) rfl rfl rfl rfl rfl (fun g1 => ?_))
 refine la rfl rfl rfl rfl rfl ?_
 refine L_nil ?_
 refine T_seq ?_
 refine Tsr hF rfl ?_
 refine lm rfl rfl rfl rfl rfl ?_
 refine lo rfl (pr_len_sl Try.underlying23 rfl rfl) rfl rfl ?_
 refine lo rfl (pr_cmp (bo := .gtr) (nc_lt (a := 500) (b := n)) rfl rfl rfl rfl) rfl rfl ?_
 refine L_nil ?_
 refine T_cond (decide (500 < n)) rfl (fun hc_2 => ?_) (fun hc_2 => ?_)
 ·
  have hc_2 := of_decide_eq_true hc_2
  refine Tsr hF rfl ?_
  refine L_op rfl (op_cn (fun w hw => awake21_f  w (hok_nil w) ) (enters_of Try.func11 kr rfl) rfl rfl rfl rfl rfl (fun t3 q4 => ?_))
  refine la rfl rfl rfl rfl rfl ?_
  refine L_nil ?_
  refine T_ret ?_
  exact T_fin () (by first | trivial | omega | (simp; done)) (res1 rfl rfl) [] ⟨by decide, rfl⟩ rfl
 ·
  have hc_2 := of_decide_eq_false hc_2
  refine T_skip ?_
  refine Tsr hF rfl ?_
  refine lm rfl rfl rfl rfl rfl ?_
  refine L_op rfl (op_cn (fun w hw => own_f b (71#8) A n c w (hok_cons ((src_rd 1 rfl) w hw) (hok_nil w)) sd sd) (enters_of Try.func12 kr rfl) rfl rfl rfl rfl rfl (fun t5 q6 => ?_))
  obtain ⟨B7, d8⟩ := t5
  have q6 : n + 3 ≤ d8 := q6
  refine la rfl rfl rfl rfl rfl ?_
  refine L_nil ?_
  refine Tsr hF rfl ?_
  refine lm rfl rfl rfl rfl rfl ?_
  refine L_op rfl (op_cn (fun w hw => ltake_f b B7 n d8 w (hok_cons ((src_old 1 rfl) w hw) (hok_nil w)) sd sd) (enters_of Try.func13 kr rfl) rfl rfl rfl rfl rfl (fun t9 q10 => ?_))
  refine lm rfl rfl rfl rfl rfl ?_
  refine lo rfl (pr_ext (vs := [(.agg (ltv b).toArray), (.int .i64 (((lte b) : Nat) : Int))]) rfl rfl rfl) rfl rfl ?_
  refine lo rfl (pr_ext (vs := [(.agg (ltv b).toArray), (.int .i64 (((lte b) : Nat) : Int))]) rfl rfl rfl) rfl rfl ?_
  refine L_op rfl (op_alloc (z := .agg [(.int .i64 ((0 : Nat) : Int)), (.int .i64 ((0 : Nat) : Int)), (.int .i64 ((0 : Nat) : Int)), (b64 (0#64)), (.int .i64 ((0 : Nat) : Int)), (b64 (0#64)), (b64 (0#64)), (b64 (0#64))].toArray) (zs := [(.int .i64 ((0 : Nat) : Int)), (.int .i64 ((0 : Nat) : Int)), (.int .i64 ((0 : Nat) : Int)), (b64 (0#64)), (.int .i64 ((0 : Nat) : Int)), (b64 (0#64)), (b64 (0#64)), (b64 (0#64))]) kr rfl rfl rfl rfl (fun g11 => ?_))
  refine L_op rfl (op_sto (n := 8) (vs := (ltv b)) 0 rfl rfl kr (ltv_one b) kr sd rfl rfl rfl rfl ?_)
  refine la rfl rfl rfl rfl rfl ?_
  refine L_nil ?_
  refine Tsr hF rfl ?_
  refine lm rfl rfl rfl rfl rfl ?_
  refine L_op rfl (op_cn (fun w hw => rltake_f b A n c w (hok_cons ((src_rd 4 rfl) w hw) (hok_nil w)) sd sd) (enters_of Try.func14 kr rfl) rfl rfl rfl rfl rfl (fun t12 q13 => ?_))
  refine lm rfl rfl rfl rfl rfl ?_
  refine lo rfl (pr_ext (vs := [(.agg (ltv b).toArray), (.int .i64 (((lte b) : Nat) : Int))]) rfl rfl rfl) rfl rfl ?_
  refine lo rfl (pr_ext (vs := [(.agg (ltv b).toArray), (.int .i64 (((lte b) : Nat) : Int))]) rfl rfl rfl) rfl rfl ?_
  refine L_op rfl (op_alloc (z := .agg [(.int .i64 ((0 : Nat) : Int)), (.int .i64 ((0 : Nat) : Int)), (.int .i64 ((0 : Nat) : Int)), (b64 (0#64)), (.int .i64 ((0 : Nat) : Int)), (b64 (0#64)), (b64 (0#64)), (b64 (0#64))].toArray) (zs := [(.int .i64 ((0 : Nat) : Int)), (.int .i64 ((0 : Nat) : Int)), (.int .i64 ((0 : Nat) : Int)), (b64 (0#64)), (.int .i64 ((0 : Nat) : Int)), (b64 (0#64)), (b64 (0#64)), (b64 (0#64))]) kr rfl rfl rfl rfl (fun g14 => ?_))
  refine L_op rfl (op_sto (n := 8) (vs := (ltv b)) 0 rfl rfl kr (ltv_one b) kr sd rfl rfl rfl rfl ?_)
  refine la rfl rfl rfl rfl rfl ?_
  refine L_nil ?_
  refine T_seq ?_
  refine T_regD [.blk g14 33 (ltv b), .blk g11 33 (ltv b), .old B7 1 (n + 3) d8 ((b ++ [(71#8), (71#8), (71#8)]).map b8), .old B7 1 n d8 (b.map b8), .blk g1 33 [(.int .i64 vk), (.int .i64 vf), (.int .i64 vt), (b64 vs), (.int .i64 vj), (b64 va), (b64 vr), (b64 vq)], .rd A 1 n c (b.map b8)] 24 24 #[false, false, false, false, false, false, false, false, false, false, false, false, false, false, false, false, false, false, false, false, false, false, false, false] hF kr kr ?_
  refine D_one 0 _ rfl kr rfl (op_cn (fun w hw => awake21_f  w (hok_nil w) ) (enters_of Try.func11 kr rfl) rfl rfl rfl rfl rfl (fun t15 q16 => ?_))
  refine D_on [0, 1, 2, 3, 4, 5] rfl ?_
  refine D_pure (i := 1) [0, 1, 2, 3, 4, 5] rfl kr rfl (pr_move rfl rfl) (.inr rfl) rfl rfl ?_
  refine D_take (i := 2) [0, 1, 2, 3, 4, 5] rfl kr rfl (ld_agg (ds := [(.int .i64 vk), (.int .i64 vf), (.int .i64 vt), (b64 vs), (.int .i64 vj), (b64 va), (b64 vr), (b64 vq)]) 4 rfl agg_all Try.underlying33 rfl kr rfl rfl) rfl rfl rfl ?_
  refine D_take (i := 4) [0, 1, 2, 3, 4, 5] rfl kr rfl (ld_agg (ds := [(.int .i64 vk), (.int .i64 vf), (.int .i64 vt), (b64 vs), (.int .i64 vj), (b64 va), (b64 vr), (b64 vq)]) 4 rfl agg_all Try.underlying33 rfl kr rfl rfl) rfl rfl rfl ?_
  refine D_one 3 _ rfl kr rfl (op_cn (fun w hw => lpack_f vk vf vt vs vj va vr vq w (hok_nil w) ) (enters_of Try.func16 kr rfl) rfl rfl rfl rfl rfl (fun t17 q18 => ?_))
  obtain ⟨B19, d20⟩ := t17
  refine D_on [1, 2, 3, 4, 5, 6] rfl ?_
  refine D_one 5 _ rfl kr rfl (op_cn (fun w hw => rlpack_f vk vf vt vs vj va vr vq w (hok_nil w) ) (enters_of Try.func17 kr rfl) rfl rfl rfl rfl rfl (fun t21 q22 => ?_))
  obtain ⟨B23, d24⟩ := t21
  refine D_on [2, 3, 4, 5, 6, 7] rfl ?_
  refine D_one 6 _ rfl kr rfl (op_cn (fun w hw => bytes_f (eights [BitVec.ofInt 64 vk, BitVec.ofInt 64 vf, BitVec.ofInt 64 vt, vs, BitVec.ofInt 64 vj, va, vr, vq]) (eights [BitVec.ofInt 64 vk, BitVec.ofInt 64 vf, BitVec.ofInt 64 vt, vs, BitVec.ofInt 64 vj, va, vr, vq]) B19 64 d20 B23 64 d24 w (hok_cons ((src_row 1 rfl) w hw) (hok_cons ((src_row 0 rfl) w hw) (hok_nil w))) ) (enters_of Try.func15 kr rfl) rfl rfl rfl rfl rfl (fun t25 q26 => ?_))
  refine D_on [2, 3, 4, 5, 6, 7] rfl ?_
  refine D_pure (i := 7) [2, 3, 4, 5, 6, 7] rfl kr rfl (pr_pick_t rfl rfl rfl) (.inr rfl) rfl rfl ?_
  refine D_pure (i := 8) [2, 3, 4, 5, 6, 7] rfl kr rfl (pr_move rfl rfl) (.inr rfl) rfl rfl ?_
  refine T_slot 32 _ (.bool true) rfl (congrArg _ (by simp)) ?_
  refine T_slot 33 _ (.bool true) rfl (congrArg _ (by simp)) ?_
  refine T_slot 34 _ (.bool true) rfl (congrArg _ (by simp)) ?_
  refine D_take (i := 9) [2, 3, 4, 5, 6, 7] rfl kr rfl (ld_agg (ds := (ltv b)) 1 rfl agg_all Try.underlying33 rfl (fwz (n := 8) kr sd) rfl rfl) rfl rfl rfl ?_
  refine D_take (i := 10) [2, 3, 4, 5, 6, 7] rfl kr rfl (ld_agg (ds := (ltv b)) 0 rfl agg_all Try.underlying33 rfl (fwz (n := 8) kr sd) rfl rfl) rfl rfl rfl ?_
  refine D_pure (i := 11) [2, 3, 4, 5, 6, 7] rfl kr rfl (pr_eqs (bo := .eql) (c := true) (r := true) (ltv_eq b) kr rfl rfl rfl rfl rfl) (.inr rfl) rfl rfl ?_
  refine D_pure (i := 12) [2, 3, 4, 5, 6, 7] rfl kr rfl (pr_pick_t rfl rfl rfl) (.inr rfl) rfl rfl ?_
  refine D_pure (i := 13) [2, 3, 4, 5, 6, 7] rfl kr rfl (pr_move rfl rfl) (.inr rfl) rfl rfl ?_
  refine D_pure (i := 14) [2, 3, 4, 5, 6, 7] rfl kr rfl (pr_move rfl rfl) (.inr rfl) rfl rfl ?_
  refine D_pure (i := 15) [2, 3, 4, 5, 6, 7] rfl kr rfl (pr_move rfl rfl) (.inr rfl) rfl rfl ?_
  refine D_pure (i := 16) [2, 3, 4, 5, 6, 7] rfl kr rfl (pr_cmp (bo := .eql) (nc_eq (a := (lte b)) (b := (lte b))) rfl rfl rfl rfl) (.inr rfl) rfl rfl ?_
  refine D_pure (i := 17) [2, 3, 4, 5, 6, 7] rfl kr rfl (pr_pick_t rfl rfl rfl) (.inr rfl) rfl rfl ?_
  refine D_pure (i := 18) [2, 3, 4, 5, 6, 7] rfl kr rfl (pr_move rfl rfl) (.inr rfl) rfl rfl ?_
  refine T_slot 42 (.bool ((lte b) == (lte b))) (.bool true) rfl (congrArg _ (by simp)) ?_
  refine T_slot 43 (.bool ((lte b) == (lte b))) (.bool true) rfl (congrArg _ (by simp)) ?_
  refine T_slot 44 (.bool ((lte b) == (lte b))) (.bool true) rfl (congrArg _ (by simp)) ?_
  refine D_pure (i := 19) [2, 3, 4, 5, 6, 7] rfl kr rfl (pr_move rfl rfl) (.inr rfl) rfl rfl ?_
  refine D_pure (i := 20) [2, 3, 4, 5, 6, 7] rfl kr rfl (pr_move rfl rfl) (.inr rfl) rfl rfl ?_
  refine D_one 21 _ rfl kr rfl (op_cn (fun w hw => kept_f b (71#8) B7 n d8 A c w (hok_cons ((src_old 5 rfl) w hw) (hok_cons ((src_old 4 rfl) w hw) (hok_cons ((src_rd 7 rfl) w hw) (hok_nil w)))) sd sd sd) (enters_of Try.func18 kr rfl) rfl rfl rfl rfl rfl (fun t27 q28 => ?_))
  refine D_on [2, 3, 4, 5, 6, 7] rfl ?_
  refine D_pure (i := 22) [2, 3, 4, 5, 6, 7] rfl kr rfl (pr_pick_t rfl rfl rfl) (.inr rfl) rfl rfl ?_
  refine D_pure (i := 23) [2, 3, 4, 5, 6, 7] rfl kr rfl (pr_assign rfl rfl) (.inr rfl) rfl rfl ?_
  refine D_done kr ?_
  refine T_ret ?_
  exact T_fin () (by first | trivial | omega | (simp; done)) (res1 rfl rfl) [] ⟨by decide, rfl⟩ rfl
end Go.Proofs.Ytlplpmkdebemnaa
