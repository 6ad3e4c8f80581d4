/- What the laws of layer 21 ask first; letters are like themselves. No conditions. -/
import Derived.Test.YtlplpmkdebemnaaGLet2
import Derived.Test.YtlplpmkdebemnaaProg
import Derived.Test.YtlplpmkdebemnaaFwU
namespace Go.Proofs.Ytlplpmkdebemnaa
set_option linter.unusedVariables false
set_option linter.unusedSimpArgs false
set_option linter.unnecessarySimpa false
set_option maxRecDepth 100000
open Go.RowKit Bv Fw

theorem ltv_eq (b : List (BitVec 8)) : ∀ d w, (Op.equalIn (d + 3) 33 (.agg (ltv b).toArray) (.agg (ltv b).toArray)).run Try.prog w = .ok true w := by
  intro d w
  unfold ltv
  split
  · exact eqs Try.underlying33 (by kernel_rfl) (eqt rfl (part1 Try.underlying3 rfl rfl) (part1 Try.underlying3 rfl rfl) (eqv_si Try.underlying3) (eqt rfl (part1 Try.underlying3 rfl rfl) (part1 Try.underlying3 rfl rfl) (eqv_si Try.underlying3) (eqt rfl (part1 Try.underlying3 rfl rfl) (part1 Try.underlying3 rfl rfl) (eqv_si Try.underlying3) (eqt rfl (part1 Try.underlying30 rfl rfl) (part1 Try.underlying30 rfl rfl) (eqv_si Try.underlying30) (eqt rfl (part1 Try.underlying3 rfl rfl) (part1 Try.underlying3 rfl rfl) (eqv_si Try.underlying3) (eqt rfl (part1 Try.underlying30 rfl rfl) (part1 Try.underlying30 rfl rfl) (eqv_si Try.underlying30) (eqt rfl (partA (n := 2) (zs := [(b64 (ath (wds b 8) 6)), (b64 (ath (wds b 8) 7))]) Try.underlying31 rfl (by kernel_rfl) rfl) (partA (n := 2) (zs := [(b64 (ath (wds b 8) 6)), (b64 (ath (wds b 8) 7))]) Try.underlying31 rfl (by kernel_rfl) rfl) (eqv_sa2 Try.underlying31 Try.underlying30 (by kernel_rfl)) eqf_nil)))))))
  · exact eqs Try.underlying33 (by kernel_rfl) (eqt rfl (part1 Try.underlying3 rfl rfl) (part1 Try.underlying3 rfl rfl) (eqv_si Try.underlying3) (eqt rfl (part1 Try.underlying3 rfl rfl) (part1 Try.underlying3 rfl rfl) (eqv_si Try.underlying3) (eqt rfl (part1 Try.underlying3 rfl rfl) (part1 Try.underlying3 rfl rfl) (eqv_si Try.underlying3) (eqt rfl (part1 Try.underlying30 rfl rfl) (part1 Try.underlying30 rfl rfl) (eqv_si Try.underlying30) (eqt rfl (part1 Try.underlying3 rfl rfl) (part1 Try.underlying3 rfl rfl) (eqv_si Try.underlying3) (eqt rfl (part1 Try.underlying30 rfl rfl) (part1 Try.underlying30 rfl rfl) (eqv_si Try.underlying30) (eqt rfl (partA (n := 2) (zs := [(b64 (0#64)), (b64 (0#64))]) Try.underlying31 rfl (by kernel_rfl) rfl) (partA (n := 2) (zs := [(b64 (0#64)), (b64 (0#64))]) Try.underlying31 rfl (by kernel_rfl) rfl) (eqv_sa2 Try.underlying31 Try.underlying30 (by kernel_rfl)) eqf_nil)))))))
theorem ltv_one (b : List (BitVec 8)) : ∀ u ∈ ltv b, u.oneCell' = true := by
  unfold ltv
  split <;> simp [lof, lnil, Value.oneCell']
set_option maxHeartbeats 4000000 in
theorem lsize_f  (w : World) (hO : HOK [] w)  : Calls Try.prog 28 [].toArray w (Ret (T := Unit) [] w (fun _ => True) (fun _ => (.int .i64 ((104 : Nat) : Int))) (fun _ => [])) := by
 have hF : Wid Fence.wide := wid_wide
 refine enter (c := _) Try.func28 rfl [] _ [] (by rw [Try.ntmps28]; rfl) (own_rds hO rfl) ?_
 rw [Try.ntmps28]
 refine T_re [] sn ?_
 refine T_he [] [] ⟨by decide, rfl⟩ ?_
 refine Tsr hF rfl ?_
 refine la rfl rfl rfl rfl rfl ?_
 refine L_nil ?_
 refine Tsr hF rfl ?_
 refine la rfl rfl rfl rfl rfl ?_
 refine L_nil ?_
 refine T_ret ?_
 exact T_fin () (by first | trivial | omega | (simp; done)) (res1 rfl rfl) [] ⟨by decide, rfl⟩ rfl
set_option maxHeartbeats 4000000 in
theorem awake21_f  (w : World) (hO : HOK [] w)  : Calls Try.prog 11 [].toArray w (Ret (T := Unit) [] w (fun _ => True) (fun _ => (.bool true)) (fun _ => [])) := by
 have hF : Wid Fence.wide := wid_wide
 refine enter (c := _) Try.func11 rfl [] _ [] (by rw [Try.ntmps11]; rfl) (own_rds hO rfl) ?_
 rw [Try.ntmps11]
 refine T_re [] sn ?_
 refine T_he [] [] ⟨by decide, rfl⟩ ?_
 refine Tsr hF rfl ?_
 refine la rfl rfl rfl rfl rfl ?_
 refine L_nil ?_
 refine Tsr hF rfl ?_
 refine L_op rfl (op_cn (fun w hw => lsize_f  w (hok_nil w) ) (enters_of Try.func28 kr rfl) rfl rfl rfl rfl rfl (fun t1 q2 => ?_))
 refine lo rfl (pr_cmp (bo := .eql) (nc_eq (a := 104) (b := 104)) rfl rfl rfl rfl) rfl rfl ?_
 refine lm rfl rfl rfl rfl rfl ?_
 refine lo rfl (pr_build (qs := []) (v := .agg [(.int .i64 ((0 : Nat) : Int)), (.int .i64 ((0 : Nat) : Int)), (.int .i64 ((0 : Nat) : Int)), (b64 (0#64)), (.int .i64 ((0 : Nat) : Int)), (b64 (0#64)), (b64 (0#64)), (b64 (0#64))].toArray) (fun _ => by kernel_rfl) rfl rfl) rfl rfl ?_
 refine L_op rfl (op_cn (fun w hw => lpack_f ((0 : Nat) : Int) ((0 : Nat) : Int) ((0 : Nat) : Int) (0#64) ((0 : Nat) : Int) (0#64) (0#64) (0#64) w (hok_nil w) ) (enters_of Try.func16 kr rfl) rfl rfl rfl rfl rfl (fun t3 q4 => ?_))
 obtain ⟨B5, d6⟩ := t3
 refine lo rfl (pr_len_sl Try.underlying23 rfl rfl) rfl rfl ?_
 refine lo rfl (pr_cmp (bo := .eql) (nc_eq (a := 64) (b := 64)) rfl rfl rfl rfl) rfl rfl ?_
 refine lo rfl (pr_pick_t rfl rfl rfl) rfl rfl ?_
 refine la rfl rfl rfl rfl rfl ?_
 refine L_nil ?_
 refine T_ret ?_
 refine T_slot 0 (.bool (64 == 64)) (.bool true) rfl (by first | rfl | (simp; done)) ?_
 exact T_fin () (by first | trivial | omega | (simp; done)) (res1 rfl rfl) [] ⟨by decide, rfl⟩ rfl
end Go.Proofs.Ytlplpmkdebemnaa
