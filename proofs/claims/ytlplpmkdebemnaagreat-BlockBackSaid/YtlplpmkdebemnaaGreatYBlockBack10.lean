/- Proved: 'domino/dominolaw10.BlockBack' returns true whatever comes in, and its arguments read behind the call as they read before it. No conditions. -/
import Derived.Test.YtlplpmkdebemnaaGreatYBlockBack9
import Derived.Test.YtlplpmkdebemnaaGreatProg
import Derived.Test.YtlplpmkdebemnaaGreatRows
import Derived.WalkKit
import Derived.ProofKit
import Derived.OpenShut
import Derived.ShutString
import Derived.ChangeOld
import Derived.Below
set_option linter.unusedVariables false
set_option linter.unusedSimpArgs false
set_option linter.unnecessarySimpa false
namespace Go.Proofs.YtlplpmkdebemnaaGreat
set_option maxRecDepth 100000
open Go.RowKit Bv Fw
def npad (a i : BitVec 64) (k : Nat) : List (BitVec 8) := (lowb a 8 ++ lowb i 4).take k ++ List.replicate (12 - k) 0#8
theorem npad_len (a i : BitVec 64) (k : Nat) (h : k ≤ 12) : (npad a i k).length = 12 := by unfold npad; simp [lowb_len]; omega
theorem npad_zero (a i : BitVec 64) : npad a i 0 = List.replicate 12 0#8 := by unfold npad; simp
theorem npad_all (a i : BitVec 64) : npad a i 12 = nonc a i := by unfold npad; rw [List.take_of_length_le (by simp [lowb_len]), nonc_def]; simp
theorem npad_set (a i : BitVec 64) (k : Nat) (h : k < 12) (v : BitVec 8) (hv : v = ath (lowb a 8 ++ lowb i 4) k) : (npad a i k).set k v = npad a i (k + 1) := by
  subst hv
  have hl : (lowb a 8 ++ lowb i 4).length = 12 := by simp [lowb_len]
  unfold npad
  rw [List.set_append_right _ _ (by simp [lowb_len]; omega), List.length_take, hl, show k - min k 12 = 0 from by omega, show 12 - k = (12 - (k + 1)) + 1 from by omega, List.replicate_succ, List.set_cons_zero, List.take_succ_eq_append_getElem oM, ath_get _ k oM, List.append_assoc]
  rfl
theorem lowb_at (v : BitVec 64) : ∀ (n k : Nat), k < n → ath (lowb v n) k = (v >>> (8 * k)).setWidth 8
  | 0, _, h => by omega
  | n + 1, k, h => by
    rw [lowb]
    by_cases hk : k = n
    · subst hk; unfold ath; rw [List.getD_eq_getElem?_getD, List.getElem?_append_right (by rw [lowb_len]; omega), lowb_len]; simp
    · have := lowb_at v n k oM
      unfold ath at *
      rw [List.getD_eq_getElem?_getD, List.getElem?_append_left (by rw [lowb_len]; omega), ← List.getD_eq_getElem?_getD]; exact this
theorem np_lo (a i : BitVec 64) (k : Nat) (h : k < 8) : (a >>> (8 * k)).setWidth 8 = ath (lowb a 8 ++ lowb i 4) k := by
  rw [← lowb_at a 8 k h]; unfold ath
  rw [List.getD_eq_getElem?_getD, List.getD_eq_getElem?_getD, List.getElem?_append_left (by rw [lowb_len]; omega)]
theorem np_hi (a i : BitVec 64) (k : Nat) (h : k < 4) : (i >>> (8 * k)).setWidth 8 = ath (lowb a 8 ++ lowb i 4) (8 + k) := by
  rw [← lowb_at i 4 k h]; unfold ath
  rw [List.getD_eq_getElem?_getD, List.getD_eq_getElem?_getD, List.getElem?_append_right (by rw [lowb_len]; omega), lowb_len, show 8 + k - 8 = k by omega]
set_option maxHeartbeats 4000000 in
theorem rplace8_f (job : List (BitVec 8)) (pp : BitVec 64) (pr : BitVec 64) (pa : BitVec 64) (pt : BitVec 64) (pi : BitVec 64) (w : World) (hO : HOK [] w) (hj : job.length = 32) : Calls Tryz.prog 19 [(.agg (job.map b8).toArray), (.agg [(.int .i64 (i64 pp)), (.int .i64 (i64 pr)), (.int .i64 (i64 pa)), (b64 pt), (.int .i64 (i64 pi))].toArray)].toArray w (Ret (T := Unit) [] w (fun _ => True) (fun _ => (.agg ((kof job ([112#8, 108#8, 97#8, 99#8, 101#8] ++ eights [pp, pr, pa])).map b8).toArray)) (fun _ => [])) := by
 have hil : (([112#8, 108#8, 97#8, 99#8, 101#8] ++ eights [pp, pr, pa])).length = 29 := by rw [List.length_append, eights_three]; rfl
 have hkl := kof_len job ([112#8, 108#8, 97#8, 99#8, 101#8] ++ eights [pp, pr, pa])
 have hF : Wid Fence.wide := wid_wide
 refine enter (c := _) Tryz.func19 rfl [] _ [] (by rw [Tryz.ntmps19]; rfl) (own_rds hO rfl) ?_
 rw [Tryz.ntmps19]
 refine lE [(0, (.agg (job.map b8).toArray)), (1, (.agg [(.int .i64 (i64 pp)), (.int .i64 (i64 pr)), (.int .i64 (i64 pa)), (b64 pt), (.int .i64 (i64 pi))].toArray))] ?_
 refine lH [] [] ?_
 refine lT ?_
 refine L_op rfl (op_box (zs := (job.map b8)) rfl rfl rfl rfl rfl (fun g1 => ?_))
 refine L_op rfl (op_box (zs := [(.int .i64 (i64 pp)), (.int .i64 (i64 pr)), (.int .i64 (i64 pa)), (b64 pt), (.int .i64 (i64 pi))]) rfl rfl rfl rfl rfl (fun g2 => ?_))
 refine L_op rfl (op_alloc (z := .agg ((List.replicate 32 0#8).map b8).toArray) (zs := ((List.replicate 32 0#8).map b8)) kr rfl rfl rfl rfl (fun g3 => ?_))
 refine L_nil ?_
 refine T_seq ?_
 refine T_regD [.blk g3 22 ((List.replicate 32 0#8).map b8), .blk g2 25 [(.int .i64 (i64 pp)), (.int .i64 (i64 pr)), (.int .i64 (i64 pa)), (b64 pt), (.int .i64 (i64 pi))], .blk g1 22 (job.map b8)] 14 17 #[false, false, false, false, false, false, false, false, false, false, false, false, false, false, false, false, false] hF kr kr ?_
 refine D_pure (i := 0) [0, 1, 2] rfl kr rfl (pr_sla (l := 0) (u := 32) (m := 0) sd sd sd rfl Tryz.underlying22 (z := 1) kr rfl rfl rfl rfl) (.inr rfl) rfl rfl ?_
 refine D_pure (i := 3) [0, 1, 2] rfl kr rfl (pr_fa (m := 0) (m' := 0) (z := 0) (by rfl) Tryz.underlying25 rfl kr rfl rfl) (.inr rfl) rfl rfl ?_
 refine D_pure (i := 6) [0, 1, 2] rfl kr rfl (pr_fa (m := 0) (m' := 1) (z := 0) (by rfl) Tryz.underlying25 rfl kr rfl rfl) (.inr rfl) rfl rfl ?_
 refine D_pure (i := 9) [0, 1, 2] rfl kr rfl (pr_fa (m := 0) (m' := 2) (z := 0) (by rfl) Tryz.underlying25 rfl kr rfl rfl) (.inr rfl) rfl rfl ?_
 refine D_take (i := 4) [0, 1, 2] rfl kr rfl (ld_blk 1 rfl rfl Tryz.underlying3 rfl rfl rfl) rfl rfl rfl ?_
 refine D_pure (i := 5) [0, 1, 2] rfl kr rfl (pr_cv (zc_i64u pp) Tryz.underlying3 Tryz.underlying23 rfl rfl) (.inr rfl) rfl rfl ?_
 refine D_take (i := 7) [0, 1, 2] rfl kr rfl (ld_blk 1 rfl rfl Tryz.underlying3 rfl rfl rfl) rfl rfl rfl ?_
 refine D_pure (i := 8) [0, 1, 2] rfl kr rfl (pr_cv (zc_i64u pr) Tryz.underlying3 Tryz.underlying23 rfl rfl) (.inr rfl) rfl rfl ?_
 refine D_take (i := 10) [0, 1, 2] rfl kr rfl (ld_blk 1 rfl rfl Tryz.underlying3 rfl rfl rfl) rfl rfl rfl ?_
 refine D_pure (i := 11) [0, 1, 2] rfl kr rfl (pr_cv (zc_i64u pa) Tryz.underlying3 Tryz.underlying23 rfl rfl) (.inr rfl) rfl rfl ?_
 refine D_join (T := Unit) (fun _ => True) (fun _ => [(4, (.pointer (some ⟨g3, 0, none⟩)))]) (fun _ => [.blk g3 22 ((kof job ([112#8, 108#8, 97#8, 99#8, 101#8] ++ eights [pp, pr, pa])).map b8), .blk g2 25 [(.int .i64 (i64 pp)), (.int .i64 (i64 pr)), (.int .i64 (i64 pa)), (b64 pt), (.int .i64 (i64 pi))], .blk g1 22 (job.map b8)]) ?_ ?_
 ·refine D_all [1, 12] kr (by simp) ⟨⟨_, rfl, rfl, ?_⟩, ⟨_, rfl, rfl, ?_⟩, trivial⟩
  ·refine id (op_bslice (e := 5) (zs := [(b8 (112#8)), (b8 (108#8)), (b8 (97#8)), (b8 (99#8)), (b8 (101#8))]) (qs := [(0, (b8 (112#8))), (1, (b8 (108#8))), (2, (b8 (97#8))), (3, (b8 (99#8))), (4, (b8 (101#8)))]) (fun _ => by kernel_rfl) rfl rfl rfl rfl (fun g14 => ?_))
   refine D_on [1, 2, 3] rfl ?_
   refine D_all [2, 12] kr (by simp) ⟨⟨_, rfl, rfl, ?_⟩, ⟨_, rfl, rfl, ?_⟩, trivial⟩
   ·refine id (op_mark (zs := [(b8 (112#8)), (b8 (108#8)), (b8 (97#8)), (b8 (99#8)), (b8 (101#8))]) 0 rfl Tryz.underlying27 Tryz.underlying5 sd sd rfl rfl rfl rfl rfl rfl ?_)
    refine D_on [1, 2, 3] rfl ?_
    refine D_one 12 _ rfl kr rfl (op_bslice (e := 23) (zs := [(b64 pp), (b64 pr), (b64 pa)]) (qs := [(0, (b64 pp)), (1, (b64 pr)), (2, (b64 pa))]) (fun _ => by kernel_rfl) rfl rfl rfl rfl (fun g15 => ?_))
    refine D_on [2, 3, 4] rfl ?_
    refine D_one 13 _ rfl kr rfl (op_cn (fun w hw => r8eights_f [pp, pr, pa] (some ⟨g15, 0, none⟩) 3 3 w (hok_cons ((src_full (z := 1) 0 rfl rfl sd sd) w hw) (hok_nil w)) sd sd) (enters_of Tryz.func43 kr rfl) rfl rfl rfl rfl rfl (fun t16 q17 => ?_))
    obtain ⟨B18, d19⟩ := t16
    refine T_slot 18 (.slice B18 (8 * 3) d19) (.slice B18 24 d19) rfl (by congr 1) ?_
    refine T_as 0 _ (.row (.slice B18 24 d19) 5 1 24 ((eights [pp, pr, pa]).map b8)) rfl (rfl) ?_
    refine D_on [3, 4, 5] rfl ?_
    refine D_one 14 _ rfl kr rfl (op_app_old (zs := [112#8, 108#8, 97#8, 99#8, 101#8]) (news := (eights [pp, pr, pa])) (src_old 2 rfl) sd sd Tryz.underlying27 kr (src_row 0 rfl) sd sd rfl rfl rfl rfl rfl (fun A20 C21 => ?_))
    refine T_as 0 _ (.row (.slice A20 29 C21) 5 1 29 (([112#8, 108#8, 97#8, 99#8, 101#8] ++ (eights [pp, pr, pa])).map b8)) rfl rfl ?_
    refine T_slot 19 (.slice A20 (5 + 24) C21) (.slice A20 29 C21) rfl rfl ?_
    refine D_past kr ?_
    refine D_one 15 _ rfl kr rfl (op_cn (fun w hw => rkey_f [] none 0 0 job (some ⟨g1, 0, none⟩) 32 32 ([112#8, 108#8, 97#8, 99#8, 101#8] ++ (eights [pp, pr, pa])) A20 29 C21 w (hok_cons ((src_nil 1) w hw) (hok_cons ((src_full (z := 1) 6 rfl sd sd sd) w hw) (hok_cons ((src_row 0 rfl) w hw) (hok_nil w)))) (by simp; done) sd aS sd hil sd) (enters_of Tryz.func42 kr rfl) rfl rfl rfl rfl rfl (fun t22 q23 => ?_))
    refine T_slot 20 _ (.agg ((kof job ([112#8, 108#8, 97#8, 99#8, 101#8] ++ eights [pp, pr, pa])).map b8).toArray) rfl (by rw [kof_def]) ?_
    refine D_past kr ?_
    refine D_one 16 _ rfl kr rfl (op_sto (n := 32) (vs := ((kof job ([112#8, 108#8, 97#8, 99#8, 101#8] ++ eights [pp, pr, pa])).map b8)) 4 rfl rfl kr (all8_one _) kr sd rfl rfl rfl rfl ?_)
    refine D_past kr ?_
    refine D_done kr ?_
    exact T_meet () trivial (sc rfl sn) [0, 5, 6] ⟨by decide, rfl⟩
   refine id (op_bslice (e := 23) (zs := [(b64 pp), (b64 pr), (b64 pa)]) (qs := [(0, (b64 pp)), (1, (b64 pr)), (2, (b64 pa))]) (fun _ => by kernel_rfl) rfl rfl rfl rfl (fun g24 => ?_))
   refine D_on [2, 3, 4] rfl ?_
   refine D_all [2, 13] kr (by simp) ⟨⟨_, rfl, rfl, ?_⟩, ⟨_, rfl, rfl, ?_⟩, trivial⟩
   ·refine id (op_mark (zs := [(b8 (112#8)), (b8 (108#8)), (b8 (97#8)), (b8 (99#8)), (b8 (101#8))]) 1 rfl Tryz.underlying27 Tryz.underlying5 sd sd rfl rfl rfl rfl rfl rfl ?_)
    refine D_on [2, 3, 4] rfl ?_
    refine D_one 13 _ rfl kr rfl (op_cn (fun w hw => r8eights_f [pp, pr, pa] (some ⟨g24, 0, none⟩) 3 3 w (hok_cons ((src_full (z := 1) 1 rfl rfl sd sd) w hw) (hok_nil w)) sd sd) (enters_of Tryz.func43 kr rfl) rfl rfl rfl rfl rfl (fun t25 q26 => ?_))
    obtain ⟨B27, d28⟩ := t25
    refine T_slot 18 (.slice B27 (8 * 3) d28) (.slice B27 24 d28) rfl (by congr 1) ?_
    refine T_as 0 _ (.row (.slice B27 24 d28) 5 1 24 ((eights [pp, pr, pa]).map b8)) rfl (rfl) ?_
    refine D_on [3, 4, 5] rfl ?_
    refine D_one 14 _ rfl kr rfl (op_app_old (zs := [112#8, 108#8, 97#8, 99#8, 101#8]) (news := (eights [pp, pr, pa])) (src_old 1 rfl) sd sd Tryz.underlying27 kr (src_row 0 rfl) sd sd rfl rfl rfl rfl rfl (fun A29 C30 => ?_))
    refine T_as 0 _ (.row (.slice A29 29 C30) 5 1 29 (([112#8, 108#8, 97#8, 99#8, 101#8] ++ (eights [pp, pr, pa])).map b8)) rfl rfl ?_
    refine T_slot 19 (.slice A29 (5 + 24) C30) (.slice A29 29 C30) rfl rfl ?_
    refine D_past kr ?_
    refine D_one 15 _ rfl kr rfl (op_cn (fun w hw => rkey_f [] none 0 0 job (some ⟨g1, 0, none⟩) 32 32 ([112#8, 108#8, 97#8, 99#8, 101#8] ++ (eights [pp, pr, pa])) A29 29 C30 w (hok_cons ((src_nil 1) w hw) (hok_cons ((src_full (z := 1) 6 rfl sd sd sd) w hw) (hok_cons ((src_row 0 rfl) w hw) (hok_nil w)))) (by simp; done) sd aS sd hil sd) (enters_of Tryz.func42 kr rfl) rfl rfl rfl rfl rfl (fun t31 q32 => ?_))
    refine T_slot 20 _ (.agg ((kof job ([112#8, 108#8, 97#8, 99#8, 101#8] ++ eights [pp, pr, pa])).map b8).toArray) rfl (by rw [kof_def]) ?_
    refine D_past kr ?_
    refine D_one 16 _ rfl kr rfl (op_sto (n := 32) (vs := ((kof job ([112#8, 108#8, 97#8, 99#8, 101#8] ++ eights [pp, pr, pa])).map b8)) 4 rfl rfl kr (all8_one _) kr sd rfl rfl rfl rfl ?_)
    refine D_past kr ?_
    refine D_done kr ?_
    exact T_meet () trivial (sc rfl sn) [0, 5, 6] ⟨by decide, rfl⟩
   refine id (op_cn (fun w hw => r8eights_f [pp, pr, pa] (some ⟨g24, 0, none⟩) 3 3 w (hok_cons ((src_full (z := 1) 0 rfl rfl sd sd) w hw) (hok_nil w)) sd sd) (enters_of Tryz.func43 kr rfl) rfl rfl rfl rfl rfl (fun t33 q34 => ?_))
   obtain ⟨B35, d36⟩ := t33
   refine T_slot 18 (.slice B35 (8 * 3) d36) (.slice B35 24 d36) rfl (by congr 1) ?_
   refine T_as 0 _ (.row (.slice B35 24 d36) 5 1 24 ((eights [pp, pr, pa]).map b8)) rfl (rfl) ?_
   refine D_on [3, 4, 5] rfl ?_
   refine D_one 2 _ rfl kr rfl (op_mark (zs := [(b8 (112#8)), (b8 (108#8)), (b8 (97#8)), (b8 (99#8)), (b8 (101#8))]) 2 rfl Tryz.underlying27 Tryz.underlying5 sd sd rfl rfl rfl rfl rfl rfl ?_)
   refine D_on [3, 4, 5] rfl ?_
   refine D_one 14 _ rfl kr rfl (op_app_old (zs := [112#8, 108#8, 97#8, 99#8, 101#8]) (news := (eights [pp, pr, pa])) (src_old 0 rfl) sd sd Tryz.underlying27 kr (src_row 1 rfl) sd sd rfl rfl rfl rfl rfl (fun A37 C38 => ?_))
   refine T_as 0 _ (.row (.slice A37 29 C38) 5 1 29 (([112#8, 108#8, 97#8, 99#8, 101#8] ++ (eights [pp, pr, pa])).map b8)) rfl rfl ?_
   refine T_slot 19 (.slice A37 (5 + 24) C38) (.slice A37 29 C38) rfl rfl ?_
   refine D_past kr ?_
   refine D_one 15 _ rfl kr rfl (op_cn (fun w hw => rkey_f [] none 0 0 job (some ⟨g1, 0, none⟩) 32 32 ([112#8, 108#8, 97#8, 99#8, 101#8] ++ (eights [pp, pr, pa])) A37 29 C38 w (hok_cons ((src_nil 1) w hw) (hok_cons ((src_full (z := 1) 6 rfl sd sd sd) w hw) (hok_cons ((src_row 0 rfl) w hw) (hok_nil w)))) (by simp; done) sd aS sd hil sd) (enters_of Tryz.func42 kr rfl) rfl rfl rfl rfl rfl (fun t39 q40 => ?_))
   refine T_slot 20 _ (.agg ((kof job ([112#8, 108#8, 97#8, 99#8, 101#8] ++ eights [pp, pr, pa])).map b8).toArray) rfl (by rw [kof_def]) ?_
   refine D_past kr ?_
   refine D_one 16 _ rfl kr rfl (op_sto (n := 32) (vs := ((kof job ([112#8, 108#8, 97#8, 99#8, 101#8] ++ eights [pp, pr, pa])).map b8)) 4 rfl rfl kr (all8_one _) kr sd rfl rfl rfl rfl ?_)
   refine D_past kr ?_
   refine D_done kr ?_
   exact T_meet () trivial (sc rfl sn) [0, 5, 6] ⟨by decide, rfl⟩
  refine id (op_bslice (e := 23) (zs := [(b64 pp), (b64 pr), (b64 pa)]) (qs := [(0, (b64 pp)), (1, (b64 pr)), (2, (b64 pa))]) (fun _ => by kernel_rfl) rfl rfl rfl rfl (fun g41 => ?_))
  refine D_on [1, 2, 3] rfl ?_
  refine D_all [1, 13] kr (by simp) ⟨⟨_, rfl, rfl, ?_⟩, ⟨_, rfl, rfl, ?_⟩, trivial⟩
  ·refine id (op_bslice (e := 5) (zs := [(b8 (112#8)), (b8 (108#8)), (b8 (97#8)), (b8 (99#8)), (b8 (101#8))]) (qs := [(0, (b8 (112#8))), (1, (b8 (108#8))), (2, (b8 (97#8))), (3, (b8 (99#8))), (4, (b8 (101#8)))]) (fun _ => by kernel_rfl) rfl rfl rfl rfl (fun g42 => ?_))
   refine D_on [2, 3, 4] rfl ?_
   refine D_all [2, 13] kr (by simp) ⟨⟨_, rfl, rfl, ?_⟩, ⟨_, rfl, rfl, ?_⟩, trivial⟩
   ·refine id (op_mark (zs := [(b8 (112#8)), (b8 (108#8)), (b8 (97#8)), (b8 (99#8)), (b8 (101#8))]) 0 rfl Tryz.underlying27 Tryz.underlying5 sd sd rfl rfl rfl rfl rfl rfl ?_)
    refine D_on [2, 3, 4] rfl ?_
    refine D_one 13 _ rfl kr rfl (op_cn (fun w hw => r8eights_f [pp, pr, pa] (some ⟨g41, 0, none⟩) 3 3 w (hok_cons ((src_full (z := 1) 1 rfl rfl sd sd) w hw) (hok_nil w)) sd sd) (enters_of Tryz.func43 kr rfl) rfl rfl rfl rfl rfl (fun t43 q44 => ?_))
    obtain ⟨B45, d46⟩ := t43
    refine T_slot 18 (.slice B45 (8 * 3) d46) (.slice B45 24 d46) rfl (by congr 1) ?_
    refine T_as 0 _ (.row (.slice B45 24 d46) 5 1 24 ((eights [pp, pr, pa]).map b8)) rfl (rfl) ?_
    refine D_on [3, 4, 5] rfl ?_
    refine D_one 14 _ rfl kr rfl (op_app_old (zs := [112#8, 108#8, 97#8, 99#8, 101#8]) (news := (eights [pp, pr, pa])) (src_old 1 rfl) sd sd Tryz.underlying27 kr (src_row 0 rfl) sd sd rfl rfl rfl rfl rfl (fun A47 C48 => ?_))
    refine T_as 0 _ (.row (.slice A47 29 C48) 5 1 29 (([112#8, 108#8, 97#8, 99#8, 101#8] ++ (eights [pp, pr, pa])).map b8)) rfl rfl ?_
    refine T_slot 19 (.slice A47 (5 + 24) C48) (.slice A47 29 C48) rfl rfl ?_
    refine D_past kr ?_
    refine D_one 15 _ rfl kr rfl (op_cn (fun w hw => rkey_f [] none 0 0 job (some ⟨g1, 0, none⟩) 32 32 ([112#8, 108#8, 97#8, 99#8, 101#8] ++ (eights [pp, pr, pa])) A47 29 C48 w (hok_cons ((src_nil 1) w hw) (hok_cons ((src_full (z := 1) 6 rfl sd sd sd) w hw) (hok_cons ((src_row 0 rfl) w hw) (hok_nil w)))) (by simp; done) sd aS sd hil sd) (enters_of Tryz.func42 kr rfl) rfl rfl rfl rfl rfl (fun t49 q50 => ?_))
    refine T_slot 20 _ (.agg ((kof job ([112#8, 108#8, 97#8, 99#8, 101#8] ++ eights [pp, pr, pa])).map b8).toArray) rfl (by rw [kof_def]) ?_
    refine D_past kr ?_
    refine D_one 16 _ rfl kr rfl (op_sto (n := 32) (vs := ((kof job ([112#8, 108#8, 97#8, 99#8, 101#8] ++ eights [pp, pr, pa])).map b8)) 4 rfl rfl kr (all8_one _) kr sd rfl rfl rfl rfl ?_)
    refine D_past kr ?_
    refine D_done kr ?_
    exact T_meet () trivial (sc rfl sn) [0, 5, 6] ⟨by decide, rfl⟩
   refine id (op_cn (fun w hw => r8eights_f [pp, pr, pa] (some ⟨g41, 0, none⟩) 3 3 w (hok_cons ((src_full (z := 1) 1 rfl rfl sd sd) w hw) (hok_nil w)) sd sd) (enters_of Tryz.func43 kr rfl) rfl rfl rfl rfl rfl (fun t51 q52 => ?_))
   obtain ⟨B53, d54⟩ := t51
   refine T_slot 18 (.slice B53 (8 * 3) d54) (.slice B53 24 d54) rfl (by congr 1) ?_
   refine T_as 0 _ (.row (.slice B53 24 d54) 5 1 24 ((eights [pp, pr, pa]).map b8)) rfl (rfl) ?_
   refine D_on [3, 4, 5] rfl ?_
   refine D_one 2 _ rfl kr rfl (op_mark (zs := [(b8 (112#8)), (b8 (108#8)), (b8 (97#8)), (b8 (99#8)), (b8 (101#8))]) 1 rfl Tryz.underlying27 Tryz.underlying5 sd sd rfl rfl rfl rfl rfl rfl ?_)
   refine D_on [3, 4, 5] rfl ?_
   refine D_one 14 _ rfl kr rfl (op_app_old (zs := [112#8, 108#8, 97#8, 99#8, 101#8]) (news := (eights [pp, pr, pa])) (src_old 0 rfl) sd sd Tryz.underlying27 kr (src_row 1 rfl) sd sd rfl rfl rfl rfl rfl (fun A55 C56 => ?_))
   refine T_as 0 _ (.row (.slice A55 29 C56) 5 1 29 (([112#8, 108#8, 97#8, 99#8, 101#8] ++ (eights [pp, pr, pa])).map b8)) rfl rfl ?_
   refine T_slot 19 (.slice A55 (5 + 24) C56) (.slice A55 29 C56) rfl rfl ?_
   refine D_past kr ?_
   refine D_one 15 _ rfl kr rfl (op_cn (fun w hw => rkey_f [] none 0 0 job (some ⟨g1, 0, none⟩) 32 32 ([112#8, 108#8, 97#8, 99#8, 101#8] ++ (eights [pp, pr, pa])) A55 29 C56 w (hok_cons ((src_nil 1) w hw) (hok_cons ((src_full (z := 1) 6 rfl sd sd sd) w hw) (hok_cons ((src_row 0 rfl) w hw) (hok_nil w)))) (by simp; done) sd aS sd hil sd) (enters_of Tryz.func42 kr rfl) rfl rfl rfl rfl rfl (fun t57 q58 => ?_))
   refine T_slot 20 _ (.agg ((kof job ([112#8, 108#8, 97#8, 99#8, 101#8] ++ eights [pp, pr, pa])).map b8).toArray) rfl (by rw [kof_def]) ?_
   refine D_past kr ?_
   refine D_one 16 _ rfl kr rfl (op_sto (n := 32) (vs := ((kof job ([112#8, 108#8, 97#8, 99#8, 101#8] ++ eights [pp, pr, pa])).map b8)) 4 rfl rfl kr (all8_one _) kr sd rfl rfl rfl rfl ?_)
   refine D_past kr ?_
   refine D_done kr ?_
   exact T_meet () trivial (sc rfl sn) [0, 5, 6] ⟨by decide, rfl⟩
  refine id (op_cn (fun w hw => r8eights_f [pp, pr, pa] (some ⟨g41, 0, none⟩) 3 3 w (hok_cons ((src_full (z := 1) 0 rfl rfl sd sd) w hw) (hok_nil w)) sd sd) (enters_of Tryz.func43 kr rfl) rfl rfl rfl rfl rfl (fun t59 q60 => ?_))
  obtain ⟨B61, d62⟩ := t59
  refine T_slot 18 (.slice B61 (8 * 3) d62) (.slice B61 24 d62) rfl (by congr 1) ?_
  refine T_as 0 _ (.row (.slice B61 24 d62) 5 1 24 ((eights [pp, pr, pa]).map b8)) rfl (rfl) ?_
  refine D_on [2, 3, 4] rfl ?_
  refine D_one 1 _ rfl kr rfl (op_bslice (e := 5) (zs := [(b8 (112#8)), (b8 (108#8)), (b8 (97#8)), (b8 (99#8)), (b8 (101#8))]) (qs := [(0, (b8 (112#8))), (1, (b8 (108#8))), (2, (b8 (97#8))), (3, (b8 (99#8))), (4, (b8 (101#8)))]) (fun _ => by kernel_rfl) rfl rfl rfl rfl (fun g63 => ?_))
  refine D_on [3, 4, 5] rfl ?_
  refine D_one 2 _ rfl kr rfl (op_mark (zs := [(b8 (112#8)), (b8 (108#8)), (b8 (97#8)), (b8 (99#8)), (b8 (101#8))]) 0 rfl Tryz.underlying27 Tryz.underlying5 sd sd rfl rfl rfl rfl rfl rfl ?_)
  refine D_on [3, 4, 5] rfl ?_
  refine D_one 14 _ rfl kr rfl (op_app_old (zs := [112#8, 108#8, 97#8, 99#8, 101#8]) (news := (eights [pp, pr, pa])) (src_old 0 rfl) sd sd Tryz.underlying27 kr (src_row 1 rfl) sd sd rfl rfl rfl rfl rfl (fun A64 C65 => ?_))
  refine T_as 0 _ (.row (.slice A64 29 C65) 5 1 29 (([112#8, 108#8, 97#8, 99#8, 101#8] ++ (eights [pp, pr, pa])).map b8)) rfl rfl ?_
  refine T_slot 19 (.slice A64 (5 + 24) C65) (.slice A64 29 C65) rfl rfl ?_
  refine D_past kr ?_
  refine D_one 15 _ rfl kr rfl (op_cn (fun w hw => rkey_f [] none 0 0 job (some ⟨g1, 0, none⟩) 32 32 ([112#8, 108#8, 97#8, 99#8, 101#8] ++ (eights [pp, pr, pa])) A64 29 C65 w (hok_cons ((src_nil 1) w hw) (hok_cons ((src_full (z := 1) 6 rfl sd sd sd) w hw) (hok_cons ((src_row 0 rfl) w hw) (hok_nil w)))) (by simp; done) sd aS sd hil sd) (enters_of Tryz.func42 kr rfl) rfl rfl rfl rfl rfl (fun t66 q67 => ?_))
  refine T_slot 20 _ (.agg ((kof job ([112#8, 108#8, 97#8, 99#8, 101#8] ++ eights [pp, pr, pa])).map b8).toArray) rfl (by rw [kof_def]) ?_
  refine D_past kr ?_
  refine D_one 16 _ rfl kr rfl (op_sto (n := 32) (vs := ((kof job ([112#8, 108#8, 97#8, 99#8, 101#8] ++ eights [pp, pr, pa])).map b8)) 4 rfl rfl kr (all8_one _) kr sd rfl rfl rfl rfl ?_)
  refine D_past kr ?_
  refine D_done kr ?_
  exact T_meet () trivial (sc rfl sn) [0, 5, 6] ⟨by decide, rfl⟩
 rintro ⟨⟩ -
 refine lE [(4, (.pointer (some ⟨g3, 0, none⟩)))] ?_
 refine lH [0, 1, 2] [.blk g3 22 ((kof job ([112#8, 108#8, 97#8, 99#8, 101#8] ++ eights [pp, pr, pa])).map b8), .blk g2 25 [(.int .i64 (i64 pp)), (.int .i64 (i64 pr)), (.int .i64 (i64 pa)), (b64 pt), (.int .i64 (i64 pi))], .blk g1 22 (job.map b8)] ?_
 refine T_ret ?_
 exact T_fin () qN (resb 0 rfl rfl rfl Tryz.underlying22 rfl (fwz (n := 32) kr sd)) [] ⟨by decide, rfl⟩ rfl
set_option maxHeartbeats 4000000 in
theorem rnonce_f (a : BitVec 64) (i : BitVec 64) (w : World) (hO : HOK [] w)  : Calls Tryz.prog 20 [(b64 a), (.int .i64 (i64 i))].toArray w (Ret (T := Unit) [] w (fun _ => True) (fun _ => (.agg ((nonc a i).map b8).toArray)) (fun _ => [])) := by
 have hnl := nonc_len a i
 refine enter (c := _) Tryz.func20 rfl [] _ [] (by rw [Tryz.ntmps20]; rfl) (own_rds hO rfl) ?_
 rw [Tryz.ntmps20]
 refine lE [(0, (b64 a)), (1, (.int .i64 (i64 i)))] ?_
 refine lH [] [] ?_
 refine lT ?_
 refine L_op rfl (op_alloc (z := .agg ((List.replicate 12 0#8).map b8).toArray) (zs := ((List.replicate 12 0#8).map b8)) kr rfl rfl rfl rfl (fun g1 => ?_))
 refine lN ?_
 refine L_op rfl (op_alloc (z := .agg ((List.replicate 12 0#8).map b8).toArray) (zs := ((List.replicate 12 0#8).map b8)) kr rfl rfl rfl rfl (fun g2 => ?_))
 refine L_nil ?_
 refine T_seq ?_
 refine lT ?_
 refine lS ?_
 refine L_nil ?_
 refine T_block ?_
 refine T_as 0 _ (.blk g2 43 ((npad a i 0).map b8)) rfl (by rw [← npad_zero a i]) ?_
 refine T_loop (T := Nat) (fun k => k ≤ 8) (fun k => [(0, (b64 a)), (1, (.int .i64 (i64 i))), (4, (.pointer (some ⟨g1, 0, none⟩))), (5, (.pointer (some ⟨g2, 0, none⟩))), (6, (.int .i64 ((k : Nat) : Int)))]) (fun k => [.blk g2 43 ((npad a i k).map b8), .blk g1 43 ((List.replicate 12 0#8).map b8)]) (fun k => 8 - k) 0 pN (sc rfl (sc rfl (sc rfl (sc rfl (sc rfl sn))))) [0, 1] ⟨by decide, rfl⟩ ?_
 rintro k hp
 have hp : k ≤ 8 := hp
 have hpl := npad_len a i k oM
 refine lE [(0, (b64 a)), (1, (.int .i64 (i64 i))), (4, (.pointer (some ⟨g1, 0, none⟩))), (5, (.pointer (some ⟨g2, 0, none⟩))), (6, (.int .i64 ((k : Nat) : Int)))] ?_
 refine lH [0, 1] [.blk g2 43 ((npad a i k).map b8), .blk g1 43 ((List.replicate 12 0#8).map b8)] ?_
 refine T_seq ?_
 refine lT ?_
 refine lM ?_
 refine lO (pr_cmp (bo := .lss) (nc_lt (a := k) (b := 8)) rfl rfl rfl rfl) ?_
 refine L_nil ?_
 refine T_cond (decide (k < 8)) rfl (fun hc_3 => ?_) (fun hc_3 => ?_)
 ·have hc_3 := of_decide_eq_true hc_3
  refine T_skip ?_
  refine T_seq ?_
  refine T_block ?_
  refine lR ?_
  refine lM ?_
  refine lM ?_
  refine lM ?_
  refine lO (pr_mul (nm_i64 (a := 8) (b := k) sd) rfl rfl rfl) ?_
  refine lO (pr_cv (ni_u64 (a := 8 * k) sd) Tryz.underlying3 Tryz.underlying39 rfl rfl) ?_
  refine lO (pr_shift (sh_shr64 a _ (8 * k)) rfl rfl rfl rfl) ?_
  refine lO (pr_cv (cv64_8 _) Tryz.underlying23 Tryz.underlying5 rfl rfl) ?_
  refine lO (pr_ixa (j := k) (m' := k) sd oM Tryz.underlying43 (z := 1) kr rfl rfl rfl) ?_
  refine L_op rfl (op_store (vs := [(b8 ((a >>> (8 * k)).setWidth 8))]) (cs' := ((List.set (npad a i k) k ((a >>> (8 * k)).setWidth 8)).map b8)) 0 rfl rfl kr (one_one rfl) (stl sd) (splice_map (f := b8) sd) rfl rfl rfl rfl ?_)
  refine L_nil ?_
  refine lR ?_
  refine lM ?_
  refine lO (pr_add (na_i64 (a := k) (b := 1) sd) rfl rfl rfl) ?_
  refine lS ?_
  refine L_nil ?_
  refine T_as 0 _ (.blk g2 43 ((npad a i (k + 1)).map b8)) rfl (by rw [npad_set a i k oM _ (np_lo a i k oM)]) ?_
  exact T_again (k + 1) pN pN (sc rfl (sc rfl (sc rfl (sc rfl (sc rfl sn))))) [0, 1] ⟨by decide, rfl⟩
 have hc_3 := of_decide_eq_false hc_3
 refine T_exit rfl ?_
 obtain rfl : 8 = k := by omega
 refine T_seq ?_
 refine lT ?_
 refine lS ?_
 refine L_nil ?_
 refine T_block ?_
 refine T_as 0 _ (.blk g2 43 ((npad a i (8 + 0)).map b8)) rfl (by rfl) ?_
 refine T_loop (T := Nat) (fun k => k ≤ 4) (fun k => [(1, (.int .i64 (i64 i))), (4, (.pointer (some ⟨g1, 0, none⟩))), (5, (.pointer (some ⟨g2, 0, none⟩))), (7, (.int .i64 ((k : Nat) : Int)))]) (fun k => [.blk g2 43 ((npad a i (8 + k)).map b8), .blk g1 43 ((List.replicate 12 0#8).map b8)]) (fun k => 4 - k) 0 pN (sc rfl (sc rfl (sc rfl (sc rfl sn)))) [0, 1] ⟨by decide, rfl⟩ ?_
 rintro k hp
 have hp : k ≤ 4 := hp
 have hpl := npad_len a i (8 + k) oM
 refine lE [(1, (.int .i64 (i64 i))), (4, (.pointer (some ⟨g1, 0, none⟩))), (5, (.pointer (some ⟨g2, 0, none⟩))), (7, (.int .i64 ((k : Nat) : Int)))] ?_
 refine lH [0, 1] [.blk g2 43 ((npad a i (8 + k)).map b8), .blk g1 43 ((List.replicate 12 0#8).map b8)] ?_
 refine T_seq ?_
 refine lT ?_
 refine lM ?_
 refine lO (pr_cmp (bo := .lss) (nc_lt (a := k) (b := 4)) rfl rfl rfl rfl) ?_
 refine L_nil ?_
 refine T_cond (decide (k < 4)) rfl (fun hc_4 => ?_) (fun hc_4 => ?_)
 ·have hc_4 := of_decide_eq_true hc_4
  refine T_skip ?_
  refine T_seq ?_
  refine T_block ?_
  refine lR ?_
  refine lM ?_
  refine lO (pr_add (na_i64 (a := 8) (b := k) sd) rfl rfl rfl) ?_
  refine lM ?_
  refine lO (pr_cv (zc_i64u i) Tryz.underlying3 Tryz.underlying23 rfl rfl) ?_
  refine lM ?_
  refine lO (pr_mul (nm_i64 (a := 8) (b := k) sd) rfl rfl rfl) ?_
  refine lO (pr_cv (ni_u64 (a := 8 * k) sd) Tryz.underlying3 Tryz.underlying39 rfl rfl) ?_
  refine lO (pr_shift (sh_shr64 i _ (8 * k)) rfl rfl rfl rfl) ?_
  refine lO (pr_cv (cv64_8 _) Tryz.underlying23 Tryz.underlying5 rfl rfl) ?_
  refine lO (pr_ixa (j := 8 + k) (m' := 8 + k) sd oM Tryz.underlying43 (z := 1) kr rfl rfl rfl) ?_
  refine L_op rfl (op_store (vs := [(b8 ((i >>> (8 * k)).setWidth 8))]) (cs' := ((List.set (npad a i (8 + k)) (8 + k) ((i >>> (8 * k)).setWidth 8)).map b8)) 0 rfl rfl kr (one_one rfl) (stl sd) (splice_map (f := b8) sd) rfl rfl rfl rfl ?_)
  refine L_nil ?_
  refine lR ?_
  refine lM ?_
  refine lO (pr_add (na_i64 (a := k) (b := 1) sd) rfl rfl rfl) ?_
  refine lS ?_
  refine L_nil ?_
  refine T_as 0 _ (.blk g2 43 ((npad a i (8 + (k + 1))).map b8)) rfl (by rw [npad_set a i (8 + k) oM _ (np_hi a i k oM)]; rfl) ?_
  exact T_again (k + 1) pN pN (sc rfl (sc rfl (sc rfl (sc rfl sn)))) [0, 1] ⟨by decide, rfl⟩
 have hc_4 := of_decide_eq_false hc_4
 refine T_exit rfl ?_
 obtain rfl : 4 = k := by omega
 refine lT ?_
 refine lQ (ld_agg (ds := ((npad a i (8 + 4)).map b8)) 0 rfl agg_all Tryz.underlying43 rfl (fwz (n := 12) kr sd) rfl rfl) ?_
 refine L_op rfl (op_sto (n := 12) (vs := ((npad a i (8 + 4)).map b8)) 1 rfl rfl kr (all8_one _) kr sd rfl rfl rfl rfl ?_)
 refine L_nil ?_
 refine T_ret ?_
 refine T_as 0 _ (.blk g1 43 ((nonc a i).map b8)) rfl (by rw [← npad_all]) ?_
 exact T_fin () qN (resb 0 rfl rfl rfl Tryz.underlying43 rfl (fwz (n := 12) kr sd)) [] ⟨by decide, rfl⟩ rfl
set_option maxHeartbeats 4000000 in
theorem raad_f (pp : BitVec 64) (pr : BitVec 64) (pa : BitVec 64) (pt : BitVec 64) (pi : BitVec 64) (sz : BitVec 64) (w : World) (hO : HOK [] w)  : Calls Tryz.prog 21 [(.agg [(.int .i64 (i64 pp)), (.int .i64 (i64 pr)), (.int .i64 (i64 pa)), (b64 pt), (.int .i64 (i64 pi))].toArray), (.int .i64 (i64 sz))].toArray w (Ret (T := Option Addr × Nat) [] w (fun ⟨B, d⟩ => True) (fun ⟨B, d⟩ => (.slice B 48 d)) (fun ⟨B, d⟩ => [.row (.slice B 48 d) 5 1 48 ((eights [pp, pr, pa, pt, pi, sz]).map b8)])) := by
 refine enter (c := _) Tryz.func21 rfl [] _ [] (by rw [Tryz.ntmps21]; rfl) (own_rds hO rfl) ?_
 rw [Tryz.ntmps21]
 refine lE [(0, (.agg [(.int .i64 (i64 pp)), (.int .i64 (i64 pr)), (.int .i64 (i64 pa)), (b64 pt), (.int .i64 (i64 pi))].toArray)), (1, (.int .i64 (i64 sz)))] ?_
 refine lH [] [] ?_
 refine lT ?_
 refine L_op rfl (op_box (zs := [(.int .i64 (i64 pp)), (.int .i64 (i64 pr)), (.int .i64 (i64 pa)), (b64 pt), (.int .i64 (i64 pi))]) rfl rfl rfl rfl rfl (fun g1 => ?_))
 refine lS ?_
 refine lN ?_
 refine lO (pr_fa (m := 0) (m' := 0) (z := 0) (by rfl) Tryz.underlying25 rfl kr rfl rfl) ?_
 refine lQ (ld_blk 0 rfl rfl Tryz.underlying3 rfl rfl rfl) ?_
 refine lO (pr_cv (zc_i64u pp) Tryz.underlying3 Tryz.underlying23 rfl rfl) ?_
 refine lO (pr_fa (m := 0) (m' := 1) (z := 0) (by rfl) Tryz.underlying25 rfl kr rfl rfl) ?_
 refine lQ (ld_blk 0 rfl rfl Tryz.underlying3 rfl rfl rfl) ?_
 refine lO (pr_cv (zc_i64u pr) Tryz.underlying3 Tryz.underlying23 rfl rfl) ?_
 refine lO (pr_fa (m := 0) (m' := 2) (z := 0) (by rfl) Tryz.underlying25 rfl kr rfl rfl) ?_
 refine lQ (ld_blk 0 rfl rfl Tryz.underlying3 rfl rfl rfl) ?_
 refine lO (pr_cv (zc_i64u pa) Tryz.underlying3 Tryz.underlying23 rfl rfl) ?_
 refine lO (pr_fa (m := 0) (m' := 3) (z := 0) (by rfl) Tryz.underlying25 rfl kr rfl rfl) ?_
 refine lQ (ld_blk 0 rfl rfl Tryz.underlying23 rfl rfl rfl) ?_
 refine lO (pr_fa (m := 0) (m' := 4) (z := 0) (by rfl) Tryz.underlying25 rfl kr rfl rfl) ?_
 refine lQ (ld_blk 0 rfl rfl Tryz.underlying3 rfl rfl rfl) ?_
 refine lO (pr_cv (zc_i64u pi) Tryz.underlying3 Tryz.underlying23 rfl rfl) ?_
 refine lM ?_
 refine lO (pr_cv (zc_i64u sz) Tryz.underlying3 Tryz.underlying23 rfl rfl) ?_
 refine L_op rfl (op_bslice (e := 23) (zs := [(b64 pp), (b64 pr), (b64 pa), (b64 pt), (b64 pi), (b64 sz)]) (qs := [(0, (b64 pp)), (1, (b64 pr)), (2, (b64 pa)), (3, (b64 pt)), (4, (b64 pi)), (5, (b64 sz))]) (fun _ => by kernel_rfl) rfl rfl rfl rfl (fun g2 => ?_))
 refine L_op rfl (op_cn (fun w hw => r8eights_f [pp, pr, pa, pt, pi, sz] (some ⟨g2, 0, none⟩) 6 6 w (hok_cons ((src_full (z := 1) 0 rfl rfl sd sd) w hw) (hok_nil w)) sd sd) (enters_of Tryz.func43 kr rfl) rfl rfl rfl rfl rfl (fun t3 q4 => ?_))
 obtain ⟨B5, d6⟩ := t3
 refine T_slot 22 (.slice B5 (8 * 6) d6) (.slice B5 48 d6) rfl (by congr 1) ?_
 refine T_as 0 _ (.row (.slice B5 48 d6) 5 1 48 ((eights [pp, pr, pa, pt, pi, sz]).map b8)) rfl (rfl) ?_
 refine lS ?_
 refine L_nil ?_
 refine T_ret ?_
 exact T_fin (B5, d6) qN (res1 rfl rfl) [0] ⟨by decide, rfl⟩ rfl
set_option maxHeartbeats 4000000 in
theorem raadn_f (pp : BitVec 64) (pr : BitVec 64) (pa : BitVec 64) (pt : BitVec 64) (pi : BitVec 64) (sz : Nat) (w : World) (hO : HOK [] w) (hsz : sz ≤ 100000000) : Calls Tryz.prog 21 [(.agg [(.int .i64 (i64 pp)), (.int .i64 (i64 pr)), (.int .i64 (i64 pa)), (b64 pt), (.int .i64 (i64 pi))].toArray), (.int .i64 ((sz : Nat) : Int))].toArray w (Ret (T := Option Addr × Nat) [] w (fun ⟨B, d⟩ => True) (fun ⟨B, d⟩ => (.slice B 48 d)) (fun ⟨B, d⟩ => [.row (.slice B 48 d) 5 1 48 ((eights [pp, pr, pa, pt, pi, (BitVec.ofNat 64 sz)]).map b8)])) := by
 refine enter (c := _) Tryz.func21 rfl [] _ [] (by rw [Tryz.ntmps21]; rfl) (own_rds hO rfl) ?_
 rw [Tryz.ntmps21]
 refine lE [(0, (.agg [(.int .i64 (i64 pp)), (.int .i64 (i64 pr)), (.int .i64 (i64 pa)), (b64 pt), (.int .i64 (i64 pi))].toArray)), (1, (.int .i64 ((sz : Nat) : Int)))] ?_
 refine lH [] [] ?_
 refine lT ?_
 refine L_op rfl (op_box (zs := [(.int .i64 (i64 pp)), (.int .i64 (i64 pr)), (.int .i64 (i64 pa)), (b64 pt), (.int .i64 (i64 pi))]) rfl rfl rfl rfl rfl (fun g1 => ?_))
 refine lS ?_
 refine lN ?_
 refine lO (pr_fa (m := 0) (m' := 0) (z := 0) (by rfl) Tryz.underlying25 rfl kr rfl rfl) ?_
 refine lQ (ld_blk 0 rfl rfl Tryz.underlying3 rfl rfl rfl) ?_
 refine lO (pr_cv (zc_i64u pp) Tryz.underlying3 Tryz.underlying23 rfl rfl) ?_
 refine lO (pr_fa (m := 0) (m' := 1) (z := 0) (by rfl) Tryz.underlying25 rfl kr rfl rfl) ?_
 refine lQ (ld_blk 0 rfl rfl Tryz.underlying3 rfl rfl rfl) ?_
 refine lO (pr_cv (zc_i64u pr) Tryz.underlying3 Tryz.underlying23 rfl rfl) ?_
 refine lO (pr_fa (m := 0) (m' := 2) (z := 0) (by rfl) Tryz.underlying25 rfl kr rfl rfl) ?_
 refine lQ (ld_blk 0 rfl rfl Tryz.underlying3 rfl rfl rfl) ?_
 refine lO (pr_cv (zc_i64u pa) Tryz.underlying3 Tryz.underlying23 rfl rfl) ?_
 refine lO (pr_fa (m := 0) (m' := 3) (z := 0) (by rfl) Tryz.underlying25 rfl kr rfl rfl) ?_
 refine lQ (ld_blk 0 rfl rfl Tryz.underlying23 rfl rfl rfl) ?_
 refine lO (pr_fa (m := 0) (m' := 4) (z := 0) (by rfl) Tryz.underlying25 rfl kr rfl rfl) ?_
 refine lQ (ld_blk 0 rfl rfl Tryz.underlying3 rfl rfl rfl) ?_
 refine lO (pr_cv (zc_i64u pi) Tryz.underlying3 Tryz.underlying23 rfl rfl) ?_
 refine lM ?_
 refine lO (pr_cv (nw64 sz) Tryz.underlying3 Tryz.underlying23 rfl rfl) ?_
 refine L_op rfl (op_bslice (e := 23) (zs := [(b64 pp), (b64 pr), (b64 pa), (b64 pt), (b64 pi), (b64 (BitVec.ofNat 64 sz))]) (qs := [(0, (b64 pp)), (1, (b64 pr)), (2, (b64 pa)), (3, (b64 pt)), (4, (b64 pi)), (5, (b64 (BitVec.ofNat 64 sz)))]) (fun _ => by kernel_rfl) rfl rfl rfl rfl (fun g2 => ?_))
 refine L_op rfl (op_cn (fun w hw => r8eights_f [pp, pr, pa, pt, pi, (BitVec.ofNat 64 sz)] (some ⟨g2, 0, none⟩) 6 6 w (hok_cons ((src_full (z := 1) 0 rfl rfl sd sd) w hw) (hok_nil w)) sd sd) (enters_of Tryz.func43 kr rfl) rfl rfl rfl rfl rfl (fun t3 q4 => ?_))
 obtain ⟨B5, d6⟩ := t3
 refine T_slot 22 (.slice B5 (8 * 6) d6) (.slice B5 48 d6) rfl (by congr 1) ?_
 refine T_as 0 _ (.row (.slice B5 48 d6) 5 1 48 ((eights [pp, pr, pa, pt, pi, (BitVec.ofNat 64 sz)]).map b8)) rfl (rfl) ?_
 refine lS ?_
 refine L_nil ?_
 refine T_ret ?_
 exact T_fin (B5, d6) qN (res1 rfl rfl) [0] ⟨by decide, rfl⟩ rfl
end Go.Proofs.YtlplpmkdebemnaaGreat
namespace Go.Proofs.YtlplpmkdebemnaaGreat
set_option maxRecDepth 100000
open Go.RowKit Bv Fw
noncomputable def aoe (key nonce aad cs : List (BitVec 8)) : Nat := open Classical in if cs.length < 16 then 3 else if agood key nonce aad cs then 0 else 6
noncomputable def aol (key nonce aad cs : List (BitVec 8)) : Nat := if aoe key nonce aad cs = 0 then cs.length - 16 else 0
noncomputable def aob (key nonce aad cs : List (BitVec 8)) : List (BitVec 8) := if aoe key nonce aad cs = 0 then aplain key nonce cs else []
theorem aoe_short {key nonce aad cs : List (BitVec 8)} {n : Nat} (h : cs.length = n) (h2 : n < 16) : aoe key nonce aad cs = 3 := by unfold aoe; rw [if_pos oM]
theorem aoe_bad {key nonce aad cs : List (BitVec 8)} {n : Nat} (h : cs.length = n) (h2 : ¬ n < 16) (hg : ¬ agood key nonce aad cs) : aoe key nonce aad cs = 6 := by unfold aoe; rw [if_neg oM, if_neg hg]
theorem aoe_good {key nonce aad cs : List (BitVec 8)} {n : Nat} (h : cs.length = n) (h2 : ¬ n < 16) (hg : agood key nonce aad cs) : aoe key nonce aad cs = 0 := by unfold aoe; rw [if_neg oM, if_pos hg]
theorem aol_no {key nonce aad cs : List (BitVec 8)} (h : ¬ aoe key nonce aad cs = 0) : aol key nonce aad cs = 0 := by unfold aol; rw [if_neg h]
theorem aob_no {key nonce aad cs : List (BitVec 8)} (h : ¬ aoe key nonce aad cs = 0) : aob key nonce aad cs = [] := by unfold aob; rw [if_neg h]
theorem aol_ok {key nonce aad cs : List (BitVec 8)} {n : Nat} (hn : cs.length = n) (h : aoe key nonce aad cs = 0) : aol key nonce aad cs = n - 16 := by unfold aol; rw [if_pos h, hn]
theorem aob_ok {key nonce aad cs : List (BitVec 8)} (h : aoe key nonce aad cs = 0) : aob key nonce aad cs = aplain key nonce cs := by unfold aob; rw [if_pos h]
attribute [irreducible] aoe aol aob
theorem ret_nil {P : Program} {f : FuncId} {args : Array Value} {w : World} {v : Value} {res : Option Addr × Nat → Value} {hs : Option Addr × Nat → List HA} (e : TypeId) (z : Nat) (h : Calls P f args w (Ret (T := Unit) [] w (fun _ => True) (fun _ => v) (fun _ => []))) (hr : res (none, 0) = v) (hh : hs (none, 0) = [.row (.slice none 0 0) e z 0 []]) : Calls P f args w (Ret (T := Option Addr × Nat) [] w (fun _ => True) res hs) :=
  h.mono fun _ w' ⟨_, _, he, hp⟩ => ⟨(none, 0), trivial, by rw [he, hr], by
    rw [hh]
    refine ⟨hp.kp, fun x hx => ?_, fun x hx k hk => ?_, by simp [HA.ids, Value.ownBlock], fun x hx r hr => ?_, fun x hx => ?_⟩ <;> rw [List.mem_singleton] at hx <;> subst hx
    · exact World.ownsRow_nil w' 0 e z
    · simp [HA.frs, Value.ownBlock] at hk
    · cases hr
    · exact ⟨rfl, rfl⟩⟩
noncomputable def boe (job : List (BitVec 8)) (pp pr pa pt pi : BitVec 64) (z : Int) (b : List (BitVec 8)) : Nat := if mayb z = false then 1 else if aoe (pkey job pp pr pa) (nonc pt pi) (paad pp pr pa pt pi z.toNat) b = 0 then bte (aplain (pkey job pp pr pa) (nonc pt pi) b) z else aoe (pkey job pp pr pa) (nonc pt pi) (paad pp pr pa pt pi z.toNat) b
noncomputable def bon (job : List (BitVec 8)) (pp pr pa pt pi : BitVec 64) (z : Int) (b : List (BitVec 8)) : Nat := if mayb z = false then 0 else if aoe (pkey job pp pr pa) (nonc pt pi) (paad pp pr pa pt pi z.toNat) b = 0 then btn (aplain (pkey job pp pr pa) (nonc pt pi) b) z else 0
noncomputable def bok (job : List (BitVec 8)) (pp pr pa pt pi : BitVec 64) (z : Int) (b : List (BitVec 8)) : List Rc := if mayb z = false then [] else if aoe (pkey job pp pr pa) (nonc pt pi) (paad pp pr pa pt pi z.toNat) b = 0 then btk (aplain (pkey job pp pr pa) (nonc pt pi) b) z else []
section
variable {job : List (BitVec 8)} {pp pr pa pt pi : BitVec 64} {z : Int} {b : List (BitVec 8)} {q : Nat}
theorem bo_arg (h : (!mayb z) = true) : boe job pp pr pa pt pi z b = 1 ∧ bon job pp pr pa pt pi z b = 0 ∧ bok job pp pr pa pt pi z b = [] := by
  have h2 : mayb z = false := by simpa using h
  unfold boe bon bok; rw [if_pos h2, if_pos h2, if_pos h2]; exact ⟨rfl, rfl, rfl⟩
theorem bo_err (h : (!mayb z) = false) (hq : z = (q : Int)) (ha : ¬ aoe (pkey job pp pr pa) (nonc pt pi) (paad pp pr pa pt pi q) b = 0) : boe job pp pr pa pt pi z b = aoe (pkey job pp pr pa) (nonc pt pi) (paad pp pr pa pt pi q) b ∧ bon job pp pr pa pt pi z b = 0 ∧ bok job pp pr pa pt pi z b = [] := by
  subst hq
  have h2 : ¬ mayb ((q : Nat) : Int) = false := by simpa using h
  have ha' : ¬ aoe (pkey job pp pr pa) (nonc pt pi) (paad pp pr pa pt pi ((q : Nat) : Int).toNat) b = 0 := ha
  unfold boe bon bok; rw [if_neg h2, if_neg h2, if_neg h2, if_neg ha', if_neg ha', if_neg ha']; exact ⟨rfl, rfl, rfl⟩
theorem bo_ok (h : (!mayb z) = false) (hq : z = (q : Int)) (ha : aoe (pkey job pp pr pa) (nonc pt pi) (paad pp pr pa pt pi q) b = 0) : boe job pp pr pa pt pi z b = bte (aplain (pkey job pp pr pa) (nonc pt pi) b) z ∧ bon job pp pr pa pt pi z b = btn (aplain (pkey job pp pr pa) (nonc pt pi) b) z ∧ bok job pp pr pa pt pi z b = btk (aplain (pkey job pp pr pa) (nonc pt pi) b) z := by
  subst hq
  have h2 : ¬ mayb ((q : Nat) : Int) = false := by simpa using h
  have ha' : aoe (pkey job pp pr pa) (nonc pt pi) (paad pp pr pa pt pi ((q : Nat) : Int).toNat) b = 0 := ha
  unfold boe bon bok; rw [if_neg h2, if_neg h2, if_neg h2, if_pos ha', if_pos ha', if_pos ha']; exact ⟨rfl, rfl, rfl⟩
end
theorem bok_len (job : List (BitVec 8)) (pp pr pa pt pi : BitVec 64) (z : Int) (b : List (BitVec 8)) : (bok job pp pr pa pt pi z b).length = bon job pp pr pa pt pi z b := by
  unfold bok bon
  split
  · rfl
  · split
    · exact btk_len _ _
    · rfl
theorem btn_le8 (b : List (BitVec 8)) (z : Int) : btn b z ≤ 8 := by
  unfold btn
  split
  · rename_i h
    unfold bte at h
    split at h
    · cases h
    · omega
  · omega
theorem bon_le (job : List (BitVec 8)) (pp pr pa pt pi : BitVec 64) (z : Int) (b : List (BitVec 8)) : bon job pp pr pa pt pi z b ≤ 8 := by
  unfold bon
  split
  · omega
  · split
    · exact btn_le8 _ _
    · omega
attribute [irreducible] boe bon bok
theorem openA_f (key : List (BitVec 8)) (nonce : List (BitVec 8)) (aad : List (BitVec 8)) (cs : List (BitVec 8)) (A1 : Option Addr) (n1 : Nat) (c1 : Nat) (A2 : Option Addr) (n2 : Nat) (c2 : Nat) (w : World) (hO : HOK [.rd A1 1 n1 c1 (aad.map b8), .rd A2 1 n2 c2 (cs.map b8)] w) (hk : key.length = 32) (hn : nonce.length = 12) (h1 : aad.length = n1) (h2 : cs.length = n2) (h3 : n1 ≤ 65536) (h5 : n2 ≤ 65552) : Calls Tryz.prog 23 [(.agg (key.map b8).toArray), (.agg (nonce.map b8).toArray), (.slice A1 n1 c1), (.slice A2 n2 c2)].toArray w (Ret (T := Option Addr × Nat) [] w (fun _ => True) (fun ⟨B, d⟩ => (.tuple [(.slice B (aol key nonce aad cs) d), (.int .i64 (((aoe key nonce aad cs) : Nat) : Int))].toArray)) (fun ⟨B, d⟩ => [.row (.slice B (aol key nonce aad cs) d) 5 1 (aol key nonce aad cs) ((aob key nonce aad cs).map b8)])) := by
  by_cases h : n2 < 16
  · have e := aoe_short (key := key) (nonce := nonce) (aad := aad) h2 h
    have e0 : ¬ aoe key nonce aad cs = 0 := by omega
    rw [aol_no e0, aob_no e0, e]
    exact ret_nil 5 1 (open_short_f key nonce aad cs A1 n1 c1 A2 n2 c2 w hO hk hn h1 h2 h3 h) rfl rfl
  · by_cases hg : agood key nonce aad cs
    · have e := aoe_good h2 h hg
      rw [aol_ok h2 e, aob_ok e, e]
      exact open_ok_f key nonce aad cs A1 n1 c1 A2 n2 c2 w hO hk hn h1 h2 h3 oM h5 hg
    · have e := aoe_bad h2 h hg
      have e0 : ¬ aoe key nonce aad cs = 0 := by omega
      rw [aol_no e0, aob_no e0, e]
      exact ret_nil 5 1 (open_bad_f key nonce aad cs A1 n1 c1 A2 n2 c2 w hO hk hn h1 h2 h3 oM h5 hg) rfl rfl
theorem ropenA_f (key : List (BitVec 8)) (nonce : List (BitVec 8)) (aad : List (BitVec 8)) (cs : List (BitVec 8)) (A1 : Option Addr) (n1 : Nat) (c1 : Nat) (A2 : Option Addr) (n2 : Nat) (c2 : Nat) (w : World) (hO : HOK [.rd A1 1 n1 c1 (aad.map b8), .rd A2 1 n2 c2 (cs.map b8)] w) (hk : key.length = 32) (hn : nonce.length = 12) (h1 : aad.length = n1) (h2 : cs.length = n2) (h3 : n1 ≤ 65536) (h5 : n2 ≤ 65552) : Calls Tryz.prog 26 [(.agg (key.map b8).toArray), (.agg (nonce.map b8).toArray), (.slice A1 n1 c1), (.slice A2 n2 c2)].toArray w (Ret (T := Option Addr × Nat) [] w (fun _ => True) (fun ⟨B, d⟩ => (.tuple [(.slice B (aol key nonce aad cs) d), (.int .i64 (((aoe key nonce aad cs) : Nat) : Int))].toArray)) (fun ⟨B, d⟩ => [.row (.slice B (aol key nonce aad cs) d) 5 1 (aol key nonce aad cs) ((aob key nonce aad cs).map b8)])) := by
  by_cases h : n2 < 16
  · have e := aoe_short (key := key) (nonce := nonce) (aad := aad) h2 h
    have e0 : ¬ aoe key nonce aad cs = 0 := by omega
    rw [aol_no e0, aob_no e0, e]
    exact ret_nil 5 1 (ropen_short_f key nonce aad cs A1 n1 c1 A2 n2 c2 w hO hk hn h1 h2 h3 h) rfl rfl
  · by_cases hg : agood key nonce aad cs
    · have e := aoe_good h2 h hg
      rw [aol_ok h2 e, aob_ok e, e]
      exact ropen_ok_f key nonce aad cs A1 n1 c1 A2 n2 c2 w hO hk hn h1 h2 h3 oM h5 hg
    · have e := aoe_bad h2 h hg
      have e0 : ¬ aoe key nonce aad cs = 0 := by omega
      rw [aol_no e0, aob_no e0, e]
      exact ret_nil 5 1 (ropen_bad_f key nonce aad cs A1 n1 c1 A2 n2 c2 w hO hk hn h1 h2 h3 oM h5 hg) rfl rfl
set_option maxRecDepth 100000 in
set_option maxHeartbeats 4000000 in
theorem bopenA_f (job : List (BitVec 8)) (pp : BitVec 64) (pr : BitVec 64) (pa : BitVec 64) (pt : BitVec 64) (pi : BitVec 64) (b : List (BitVec 8)) (A : Option Addr) (n : Nat) (c : Nat) (z : Int) (w : World) (hO : HOK [.rd A 1 n c (b.map b8)] w) (hj : job.length = 32) (hb : b.length = n) (hn : n ≤ 65552) : Calls Tryz.prog 8 [(.agg (job.map b8).toArray), (.agg [(.int .i64 (i64 pp)), (.int .i64 (i64 pr)), (.int .i64 (i64 pa)), (b64 pt), (.int .i64 (i64 pi))].toArray), (.int .i64 z), (.slice A n c)].toArray w (Ret (T := Option Addr × Nat) [] w (fun ⟨E, e⟩ => True) (fun ⟨E, e⟩ => (.tuple [(.slice E (bon job pp pr pa pt pi z b) e), (.int .i64 (((boe job pp pr pa pt pi z b) : Nat) : Int))].toArray)) (fun ⟨E, e⟩ => [.row (.slice E (bon job pp pr pa pt pi z b) e) 37 4 (bon job pp pr pa pt pi z b) (rcs (bok job pp pr pa pt pi z b))])) := by
 have hpk := pkey_len job pp pr pa
 have hnn := nonc_len pt pi
 have huu : ((pkey job pp pr pa) ++ (nonc pt pi)).length = 44 := by rw [List.length_append, hpk, hnn]
 have haq := fun q => paad_len pp pr pa pt pi q
 have hF : Wid Fence.wide := wid_wide
 refine enter (c := _) Tryz.func8 rfl [] _ [.rd A 1 n c (b.map b8)] (by rw [Tryz.ntmps8]; rfl) (own_rds hO rfl) ?_
 rw [Tryz.ntmps8]
 refine lE [(0, (.agg (job.map b8).toArray)), (1, (.agg [(.int .i64 (i64 pp)), (.int .i64 (i64 pr)), (.int .i64 (i64 pa)), (b64 pt), (.int .i64 (i64 pi))].toArray)), (2, (.int .i64 z)), (3, (.slice A n c))] ?_
 refine lH [0] [.rd A 1 n c (b.map b8)] ?_
 refine lT ?_
 refine L_op rfl (op_box (zs := (job.map b8)) rfl rfl rfl rfl rfl (fun g1 => ?_))
 refine L_op rfl (op_box (zs := [(.int .i64 (i64 pp)), (.int .i64 (i64 pr)), (.int .i64 (i64 pa)), (b64 pt), (.int .i64 (i64 pi))]) rfl rfl rfl rfl rfl (fun g2 => ?_))
 refine lS ?_
 refine lS ?_
 refine L_nil ?_
 refine T_seq ?_
 refine lT ?_
 refine lM ?_
 refine L_op rfl (op_cn (fun w hw => may_f z w (hok_nil w) ) (enters_of Tryz.func22 kr rfl) rfl rfl rfl rfl rfl (fun t3 q4 => ?_))
 refine lO (pr_un rfl rfl rfl) ?_
 refine L_nil ?_
 refine T_cond (!(mayb z)) rfl (fun hc_5 => ?_) (fun hc_5 => ?_)
 ·refine lT ?_
  refine lS ?_
  refine lS ?_
  refine L_nil ?_
  refine T_ret ?_
  refine T_slot 8 (.slice none 0 0) (.slice none (bon job pp pr pa pt pi z b) 0) rfl (by rw [(bo_arg (job := job) (pp := pp) (pr := pr) (pa := pa) (pt := pt) (pi := pi) (b := b) aS).2.1]) ?_
  refine T_slot 9 (.int .i64 ((1 : Nat) : Int)) (.int .i64 (((boe job pp pr pa pt pi z b) : Nat) : Int)) rfl (by rw [(bo_arg (job := job) (pp := pp) (pr := pr) (pa := pa) (pt := pt) (pi := pi) (b := b) aS).1]) ?_
  refine T_nilrow 37 4 ?_
  refine T_as 0 _ (.row (.slice none (bon job pp pr pa pt pi z b) 0) 37 4 (bon job pp pr pa pt pi z b) (rcs (bok job pp pr pa pt pi z b))) rfl (by rw [(bo_arg (job := job) (pp := pp) (pr := pr) (pa := pa) (pt := pt) (pi := pi) (b := b) aS).2.1, (bo_arg (job := job) (pp := pp) (pr := pr) (pa := pa) (pt := pt) (pi := pi) (b := b) aS).2.2]; rfl) ?_
  exact T_fin (none, 0) qN (res2 rfl rfl rfl) [0] ⟨by decide, rfl⟩ rfl
 have hmz : (!mayb z) = false := by assumption
 obtain ⟨hz1, hz2⟩ := mayb_t hmz
 obtain ⟨q, hq⟩ : ∃ q : Nat, z = (q : Int) := ⟨z.toNat, by omega⟩
 have hq8 : q ≤ 8 := by omega
 have haa := haq q
 refine T_skip ?_
 refine lT ?_
 refine lQ (ld_agg (ds := (job.map b8)) 1 rfl agg_all Tryz.underlying22 rfl (fwz (n := 32) kr sd) rfl rfl) ?_
 refine lQ (ld_agg (ds := [(.int .i64 (i64 pp)), (.int .i64 (i64 pr)), (.int .i64 (i64 pa)), (b64 pt), (.int .i64 (i64 pi))]) 0 rfl agg_all Tryz.underlying25 rfl kr rfl rfl) ?_
 refine L_op rfl (op_cn (fun w hw => buse_f job pp pr pa pt pi w (hok_nil w) aS) (enters_of Tryz.func14 kr rfl) rfl rfl rfl rfl rfl (fun t6 q7 => ?_))
 refine L_op rfl (op_alloc (z := .agg [(b8 (0#8)), (b8 (0#8)), (b8 (0#8)), (b8 (0#8)), (b8 (0#8)), (b8 (0#8)), (b8 (0#8)), (b8 (0#8)), (b8 (0#8)), (b8 (0#8)), (b8 (0#8)), (b8 (0#8)), (b8 (0#8)), (b8 (0#8)), (b8 (0#8)), (b8 (0#8)), (b8 (0#8)), (b8 (0#8)), (b8 (0#8)), (b8 (0#8)), (b8 (0#8)), (b8 (0#8)), (b8 (0#8)), (b8 (0#8)), (b8 (0#8)), (b8 (0#8)), (b8 (0#8)), (b8 (0#8)), (b8 (0#8)), (b8 (0#8)), (b8 (0#8)), (b8 (0#8)), (b8 (0#8)), (b8 (0#8)), (b8 (0#8)), (b8 (0#8)), (b8 (0#8)), (b8 (0#8)), (b8 (0#8)), (b8 (0#8)), (b8 (0#8)), (b8 (0#8)), (b8 (0#8)), (b8 (0#8))].toArray) (zs := [(b8 (0#8)), (b8 (0#8)), (b8 (0#8)), (b8 (0#8)), (b8 (0#8)), (b8 (0#8)), (b8 (0#8)), (b8 (0#8)), (b8 (0#8)), (b8 (0#8)), (b8 (0#8)), (b8 (0#8)), (b8 (0#8)), (b8 (0#8)), (b8 (0#8)), (b8 (0#8)), (b8 (0#8)), (b8 (0#8)), (b8 (0#8)), (b8 (0#8)), (b8 (0#8)), (b8 (0#8)), (b8 (0#8)), (b8 (0#8)), (b8 (0#8)), (b8 (0#8)), (b8 (0#8)), (b8 (0#8)), (b8 (0#8)), (b8 (0#8)), (b8 (0#8)), (b8 (0#8)), (b8 (0#8)), (b8 (0#8)), (b8 (0#8)), (b8 (0#8)), (b8 (0#8)), (b8 (0#8)), (b8 (0#8)), (b8 (0#8)), (b8 (0#8)), (b8 (0#8)), (b8 (0#8)), (b8 (0#8))]) kr rfl rfl rfl rfl (fun g8 => ?_))
 refine L_op rfl (op_sto (n := 44) (vs := (((pkey job pp pr pa) ++ (nonc pt pi)).map b8)) 0 rfl rfl kr (all8_one _) kr sd rfl rfl rfl rfl ?_)
 refine L_nil ?_
 refine T_seq ?_
 refine T_regD [.blk g8 45 (((pkey job pp pr pa) ++ (nonc pt pi)).map b8), .blk g2 25 [(.int .i64 (i64 pp)), (.int .i64 (i64 pr)), (.int .i64 (i64 pa)), (b64 pt), (.int .i64 (i64 pi))], .blk g1 22 (job.map b8), .rd A 1 n c (b.map b8)] 15 15 #[false, false, false, false, false, false, false, false, false, false, false, false, false, false, false] hF kr kr ?_
 refine D_pure (i := 0) [0, 1, 2, 3] rfl kr rfl (pr_fa (m := 0) (m' := 0) (z := 31) (by rfl) Tryz.underlying45 rfl kr rfl rfl) (.inr rfl) rfl rfl ?_
 refine D_pure (i := 2) [0, 1, 2, 3] rfl kr rfl (pr_fa (m := 0) (m' := 32) (z := 11) (by rfl) Tryz.underlying45 rfl kr rfl rfl) (.inr rfl) rfl rfl ?_
 refine D_pure (i := 5) [0, 1, 2, 3] rfl kr rfl (pr_move rfl rfl) (.inr rfl) rfl rfl ?_
 refine D_pure (i := 6) [0, 1, 2, 3] rfl kr rfl (pr_mul (zw_i64 (z := (z * ((32 : Nat) : Int))) sd) rfl rfl rfl) (.inr rfl) rfl rfl ?_
 refine T_slot 26 (.int .i64 (z * ((32 : Nat) : Int))) (.int .i64 ((32 * q : Nat) : Int)) rfl (by rw [hq] <;> first | (congr 1; done) | (congr 1; omega)) ?_
 refine D_pure (i := 8) [0, 1, 2, 3] rfl kr rfl (pr_move rfl rfl) (.inr rfl) rfl rfl ?_
 refine D_take (i := 1) [0, 1, 2, 3] rfl kr rfl (ld_agg (ds := ((List.take 32 ((pkey job pp pr pa) ++ (nonc pt pi))).map b8)) 0 rfl (by simp [List.map_take, List.map_drop]) Tryz.underlying22 rfl (fwz (n := 32) kr sd) rfl rfl) rfl rfl rfl ?_
 refine T_slot 21 _ (.agg ((pkey job pp pr pa).map b8).toArray) rfl (by rw [ptake hpk]) ?_
 refine D_take (i := 3) [0, 1, 2, 3] rfl kr rfl (ld_agg (ds := ((List.take 12 (List.drop 32 ((pkey job pp pr pa) ++ (nonc pt pi)))).map b8)) 0 rfl (by simp [List.map_take, List.map_drop]) Tryz.underlying43 rfl (fwz (n := 12) kr sd) rfl rfl) rfl rfl rfl ?_
 refine T_slot 23 _ (.agg ((nonc pt pi).map b8).toArray) rfl (by rw [pdrop hpk hnn]) ?_
 refine D_take (i := 4) [0, 1, 2, 3] rfl kr rfl (ld_agg (ds := [(.int .i64 (i64 pp)), (.int .i64 (i64 pr)), (.int .i64 (i64 pa)), (b64 pt), (.int .i64 (i64 pi))]) 1 rfl agg_all Tryz.underlying25 rfl kr rfl rfl) rfl rfl rfl ?_
 refine D_one 7 _ rfl kr rfl (op_cn (fun w hw => kaad_f pp pr pa pt pi (32 * q) w (hok_nil w) sd) (enters_of Tryz.func16 kr rfl) rfl rfl rfl rfl rfl (fun t9 q10 => ?_))
 obtain ⟨B11, d12⟩ := t9
 have haa := haq q
 refine T_as 0 _ (.old B11 1 48 d12 ((paad pp pr pa pt pi q).map b8)) rfl (by rw [paad_def]) ?_
 refine D_on [1, 2, 3, 4] rfl ?_
 refine D_one 9 _ rfl kr rfl (op_cn (fun w hw => openA_f (pkey job pp pr pa) (nonc pt pi) (paad pp pr pa pt pi q) b B11 48 d12 A n c w (hok_cons ((src_old 0 rfl) w hw) (hok_cons ((src_rd 4 rfl) w hw) (hok_nil w))) aS aS aS hb sd sd) (enters_of Tryz.func23 kr rfl) rfl rfl rfl rfl rfl (fun t13 q14 => ?_))
 obtain ⟨B15, d16⟩ := t13
 refine D_on [2, 3, 4, 5] rfl ?_
 refine D_pure (i := 10) [2, 3, 4, 5] rfl kr rfl (pr_move rfl rfl) (.inr rfl) rfl rfl ?_
 refine D_pure (i := 11) [2, 3, 4, 5] rfl kr rfl (pr_ext (vs := [(.slice B15 (aol (pkey job pp pr pa) (nonc pt pi) (paad pp pr pa pt pi q) b) d16), (.int .i64 (((aoe (pkey job pp pr pa) (nonc pt pi) (paad pp pr pa pt pi q) b) : Nat) : Int))]) rfl rfl rfl) (.inr rfl) rfl rfl ?_
 refine D_pure (i := 12) [2, 3, 4, 5] rfl kr rfl (pr_ext (vs := [(.slice B15 (aol (pkey job pp pr pa) (nonc pt pi) (paad pp pr pa pt pi q) b) d16), (.int .i64 (((aoe (pkey job pp pr pa) (nonc pt pi) (paad pp pr pa pt pi q) b) : Nat) : Int))]) rfl rfl rfl) (.inr rfl) rfl rfl ?_
 refine D_pure (i := 13) [2, 3, 4, 5] rfl kr rfl (pr_assign rfl rfl) (.inr rfl) rfl rfl ?_
 refine D_pure (i := 14) [2, 3, 4, 5] rfl kr rfl (pr_assign rfl rfl) (.inr rfl) rfl rfl ?_
 refine D_done kr ?_
 refine T_seq ?_
 refine lT ?_
 refine lM ?_
 refine lO (pr_cmp (bo := .neq) (nc_ne (a := (aoe (pkey job pp pr pa) (nonc pt pi) (paad pp pr pa pt pi q) b)) (b := 0)) rfl rfl rfl rfl) ?_
 refine L_nil ?_
 refine T_cond ((aoe (pkey job pp pr pa) (nonc pt pi) (paad pp pr pa pt pi q) b) != 0) rfl (fun hc_17 => ?_) (fun hc_17 => ?_)
 ·have hc_17 : ¬ (aoe (pkey job pp pr pa) (nonc pt pi) (paad pp pr pa pt pi q) b) = 0 := by simpa using hc_17
  refine lT ?_
  refine lM ?_
  refine lS ?_
  refine lS ?_
  refine L_nil ?_
  refine T_ret ?_
  refine T_slot 8 (.slice none 0 0) (.slice none (bon job pp pr pa pt pi z b) 0) rfl (by rw [(bo_err aS hq aS).2.1]) ?_
  refine T_slot 9 _ (.int .i64 (((boe job pp pr pa pt pi z b) : Nat) : Int)) rfl (by rw [(bo_err aS hq aS).1]) ?_
  refine T_nilrow 37 4 ?_
  refine T_as 0 _ (.row (.slice none (bon job pp pr pa pt pi z b) 0) 37 4 (bon job pp pr pa pt pi z b) (rcs (bok job pp pr pa pt pi z b))) rfl (by rw [(bo_err aS hq aS).2.1, (bo_err aS hq aS).2.2]; rfl) ?_
  exact T_fin (none, 0) qN (res2 rfl rfl rfl) [0] ⟨by decide, rfl⟩ rfl
 have hc_17 : (aoe (pkey job pp pr pa) (nonc pt pi) (paad pp pr pa pt pi q) b) = 0 := by simpa using hc_17
 have hae : aoe (pkey job pp pr pa) (nonc pt pi) (paad pp pr pa pt pi q) b = 0 := by assumption
 have hal := aol_ok hb hae
 have hap := aob_ok hae
 have hapl := aplain_len (pkey job pp pr pa) (nonc pt pi) b
 refine T_as 0 _ (.row (.slice B15 (n - 16) d16) 5 1 (n - 16) ((aplain (pkey job pp pr pa) (nonc pt pi) b).map b8)) rfl (by rw [hal, hap]) ?_
 refine T_slot 11 _ (.slice B15 (n - 16) d16) rfl (by rw [hal]) ?_
 refine T_skip ?_
 refine lT ?_
 refine lM ?_
 refine lM ?_
 refine L_op rfl (op_cn (fun w hw => btake_f (aplain (pkey job pp pr pa) (nonc pt pi) b) z B15 (n - 16) d16 w (hok_cons ((src_row 0 rfl) w hw) (hok_nil w)) sd sd) (enters_of Tryz.func24 kr rfl) rfl rfl rfl rfl rfl (fun t18 q19 => ?_))
 obtain ⟨B20, e21⟩ := t18
 refine lO (pr_ext (vs := [(.slice B20 (btn (aplain (pkey job pp pr pa) (nonc pt pi) b) z) e21), (.int .i64 (((bte (aplain (pkey job pp pr pa) (nonc pt pi) b) z) : Nat) : Int))]) rfl rfl rfl) ?_
 refine lO (pr_ext (vs := [(.slice B20 (btn (aplain (pkey job pp pr pa) (nonc pt pi) b) z) e21), (.int .i64 (((bte (aplain (pkey job pp pr pa) (nonc pt pi) b) z) : Nat) : Int))]) rfl rfl rfl) ?_
 refine lS ?_
 refine lS ?_
 refine L_nil ?_
 refine T_ret ?_
 refine T_slot 8 _ (.slice B20 (bon job pp pr pa pt pi z b) e21) rfl (by rw [(bo_ok aS hq aS).2.1]) ?_
 refine T_slot 9 _ (.int .i64 (((boe job pp pr pa pt pi z b) : Nat) : Int)) rfl (by rw [(bo_ok aS hq aS).1]) ?_
 refine T_as 0 _ (.row (.slice B20 (bon job pp pr pa pt pi z b) e21) 37 4 (bon job pp pr pa pt pi z b) (rcs (bok job pp pr pa pt pi z b))) rfl (by rw [(bo_ok aS hq aS).2.1, (bo_ok aS hq aS).2.2]) ?_
 exact T_fin (B20, e21) qN (res2 rfl rfl rfl) [0] ⟨by decide, rfl⟩ rfl
set_option maxRecDepth 100000 in
set_option maxHeartbeats 4000000 in
theorem rbopenA_f (job : List (BitVec 8)) (pp : BitVec 64) (pr : BitVec 64) (pa : BitVec 64) (pt : BitVec 64) (pi : BitVec 64) (b : List (BitVec 8)) (A : Option Addr) (n : Nat) (c : Nat) (z : Int) (w : World) (hO : HOK [.rd A 1 n c (b.map b8)] w) (hj : job.length = 32) (hb : b.length = n) (hn : n ≤ 65552) : Calls Tryz.prog 9 [(.agg (job.map b8).toArray), (.agg [(.int .i64 (i64 pp)), (.int .i64 (i64 pr)), (.int .i64 (i64 pa)), (b64 pt), (.int .i64 (i64 pi))].toArray), (.int .i64 z), (.slice A n c)].toArray w (Ret (T := Option Addr × Nat) [] w (fun ⟨E, e⟩ => True) (fun ⟨E, e⟩ => (.tuple [(.slice E (bon job pp pr pa pt pi z b) e), (.int .i64 (((boe job pp pr pa pt pi z b) : Nat) : Int))].toArray)) (fun ⟨E, e⟩ => [.row (.slice E (bon job pp pr pa pt pi z b) e) 37 4 (bon job pp pr pa pt pi z b) (rcs (bok job pp pr pa pt pi z b))])) := by
 have hpk := pkey_len job pp pr pa
 have hnn := nonc_len pt pi
 have huu : ((pkey job pp pr pa) ++ (nonc pt pi)).length = 44 := by rw [List.length_append, hpk, hnn]
 have haq := fun q => paad_len pp pr pa pt pi q
 have hF : Wid Fence.wide := wid_wide
 refine enter (c := _) Tryz.func9 rfl [] _ [.rd A 1 n c (b.map b8)] (by rw [Tryz.ntmps9]; rfl) (own_rds hO rfl) ?_
 rw [Tryz.ntmps9]
 refine lE [(0, (.agg (job.map b8).toArray)), (1, (.agg [(.int .i64 (i64 pp)), (.int .i64 (i64 pr)), (.int .i64 (i64 pa)), (b64 pt), (.int .i64 (i64 pi))].toArray)), (2, (.int .i64 z)), (3, (.slice A n c))] ?_
 refine lH [0] [.rd A 1 n c (b.map b8)] ?_
 refine lT ?_
 refine L_op rfl (op_box (zs := (job.map b8)) rfl rfl rfl rfl rfl (fun g1 => ?_))
 refine L_op rfl (op_box (zs := [(.int .i64 (i64 pp)), (.int .i64 (i64 pr)), (.int .i64 (i64 pa)), (b64 pt), (.int .i64 (i64 pi))]) rfl rfl rfl rfl rfl (fun g2 => ?_))
 refine lS ?_
 refine lS ?_
 refine L_nil ?_
 refine T_seq ?_
 refine lT ?_
 refine lM ?_
 refine L_op rfl (op_cn (fun w hw => rmay_f z w (hok_nil w) ) (enters_of Tryz.func25 kr rfl) rfl rfl rfl rfl rfl (fun t3 q4 => ?_))
 refine lO (pr_un rfl rfl rfl) ?_
 refine L_nil ?_
 refine T_cond (!(mayb z)) rfl (fun hc_5 => ?_) (fun hc_5 => ?_)
 ·refine lT ?_
  refine lS ?_
  refine lS ?_
  refine L_nil ?_
  refine T_ret ?_
  refine T_slot 8 (.slice none 0 0) (.slice none (bon job pp pr pa pt pi z b) 0) rfl (by rw [(bo_arg (job := job) (pp := pp) (pr := pr) (pa := pa) (pt := pt) (pi := pi) (b := b) aS).2.1]) ?_
  refine T_slot 9 (.int .i64 ((1 : Nat) : Int)) (.int .i64 (((boe job pp pr pa pt pi z b) : Nat) : Int)) rfl (by rw [(bo_arg (job := job) (pp := pp) (pr := pr) (pa := pa) (pt := pt) (pi := pi) (b := b) aS).1]) ?_
  refine T_nilrow 37 4 ?_
  refine T_as 0 _ (.row (.slice none (bon job pp pr pa pt pi z b) 0) 37 4 (bon job pp pr pa pt pi z b) (rcs (bok job pp pr pa pt pi z b))) rfl (by rw [(bo_arg (job := job) (pp := pp) (pr := pr) (pa := pa) (pt := pt) (pi := pi) (b := b) aS).2.1, (bo_arg (job := job) (pp := pp) (pr := pr) (pa := pa) (pt := pt) (pi := pi) (b := b) aS).2.2]; rfl) ?_
  exact T_fin (none, 0) qN (res2 rfl rfl rfl) [0] ⟨by decide, rfl⟩ rfl
 have hmz : (!mayb z) = false := by assumption
 obtain ⟨hz1, hz2⟩ := mayb_t hmz
 obtain ⟨q, hq⟩ : ∃ q : Nat, z = (q : Int) := ⟨z.toNat, by omega⟩
 have hq8 : q ≤ 8 := by omega
 have haa := haq q
 refine T_skip ?_
 refine T_seq ?_
 refine T_regD [.blk g2 25 [(.int .i64 (i64 pp)), (.int .i64 (i64 pr)), (.int .i64 (i64 pa)), (b64 pt), (.int .i64 (i64 pi))], .blk g1 22 (job.map b8), .rd A 1 n c (b.map b8)] 19 19 #[false, false, false, false, false, false, false, false, false, false, false, false, false, false, false, false, false, false, false] hF kr kr ?_
 refine D_pure (i := 3) [0, 1, 2] rfl kr rfl (pr_fa (m := 0) (m' := 3) (z := 0) (by rfl) Tryz.underlying25 rfl kr rfl rfl) (.inr rfl) rfl rfl ?_
 refine D_pure (i := 5) [0, 1, 2] rfl kr rfl (pr_fa (m := 0) (m' := 4) (z := 0) (by rfl) Tryz.underlying25 rfl kr rfl rfl) (.inr rfl) rfl rfl ?_
 refine D_pure (i := 9) [0, 1, 2] rfl kr rfl (pr_move rfl rfl) (.inr rfl) rfl rfl ?_
 refine D_pure (i := 10) [0, 1, 2] rfl kr rfl (pr_mul (zw_i64 (z := (((32 : Nat) : Int) * z)) sd) rfl rfl rfl) (.inr rfl) rfl rfl ?_
 refine T_slot 26 (.int .i64 (((32 : Nat) : Int) * z)) (.int .i64 ((32 * q : Nat) : Int)) rfl (by rw [hq] <;> first | (congr 1; done) | (congr 1; omega)) ?_
 refine D_pure (i := 12) [0, 1, 2] rfl kr rfl (pr_move rfl rfl) (.inr rfl) rfl rfl ?_
 refine D_take (i := 0) [0, 1, 2] rfl kr rfl (ld_agg (ds := (job.map b8)) 1 rfl agg_all Tryz.underlying22 rfl (fwz (n := 32) kr sd) rfl rfl) rfl rfl rfl ?_
 refine D_take (i := 1) [0, 1, 2] rfl kr rfl (ld_agg (ds := [(.int .i64 (i64 pp)), (.int .i64 (i64 pr)), (.int .i64 (i64 pa)), (b64 pt), (.int .i64 (i64 pi))]) 0 rfl agg_all Tryz.underlying25 rfl kr rfl rfl) rfl rfl rfl ?_
 refine D_take (i := 4) [0, 1, 2] rfl kr rfl (ld_blk 0 rfl rfl Tryz.underlying23 rfl rfl rfl) rfl rfl rfl ?_
 refine D_take (i := 6) [0, 1, 2] rfl kr rfl (ld_blk 0 rfl rfl Tryz.underlying3 rfl rfl rfl) rfl rfl rfl ?_
 refine D_take (i := 8) [0, 1, 2] rfl kr rfl (ld_agg (ds := [(.int .i64 (i64 pp)), (.int .i64 (i64 pr)), (.int .i64 (i64 pa)), (b64 pt), (.int .i64 (i64 pi))]) 0 rfl agg_all Tryz.underlying25 rfl kr rfl rfl) rfl rfl rfl ?_
 refine D_one 2 _ rfl kr rfl (op_cn (fun w hw => rplace8_f job pp pr pa pt pi w (hok_nil w) aS) (enters_of Tryz.func19 kr rfl) rfl rfl rfl rfl rfl (fun t6 q7 => ?_))
 refine T_slot 18 _ (.agg ((pkey job pp pr pa).map b8).toArray) rfl (by rw [pkey_def]) ?_
 refine D_on [0, 1, 2] rfl ?_
 refine D_one 7 _ rfl kr rfl (op_cn (fun w hw => rnonce_f pt pi w (hok_nil w) ) (enters_of Tryz.func20 kr rfl) rfl rfl rfl rfl rfl (fun t8 q9 => ?_))
 refine D_on [0, 1, 2] rfl ?_
 refine D_one 11 _ rfl kr rfl (op_cn (fun w hw => raadn_f pp pr pa pt pi (32 * q) w (hok_nil w) sd) (enters_of Tryz.func21 kr rfl) rfl rfl rfl rfl rfl (fun t10 q11 => ?_))
 obtain ⟨B12, d13⟩ := t10
 refine T_slot 27 (.slice B12 48 d13) (.slice B12 48 d13) rfl (by congr 1) ?_
 refine T_as 0 _ (.row (.slice B12 48 d13) 5 1 48 ((eights [pp, pr, pa, pt, pi, (BitVec.ofNat 64 (32 * q))]).map b8)) rfl (rfl) ?_
 have haa := haq q
 refine T_as 0 _ (.row (.slice B12 48 d13) 5 1 48 ((paad pp pr pa pt pi q).map b8)) rfl (by rw [paad_def]) ?_
 refine D_on [1, 2, 3] rfl ?_
 refine D_one 13 _ rfl kr rfl (op_cn (fun w hw => ropenA_f (pkey job pp pr pa) (nonc pt pi) (paad pp pr pa pt pi q) b B12 48 d13 A n c w (hok_cons ((src_row 0 rfl) w hw) (hok_cons ((src_rd 3 rfl) w hw) (hok_nil w))) aS aS aS hb sd sd) (enters_of Tryz.func26 kr rfl) rfl rfl rfl rfl rfl (fun t14 q15 => ?_))
 obtain ⟨B16, d17⟩ := t14
 refine D_on [2, 3, 4] rfl ?_
 refine D_pure (i := 14) [2, 3, 4] rfl kr rfl (pr_move rfl rfl) (.inr rfl) rfl rfl ?_
 refine D_pure (i := 15) [2, 3, 4] rfl kr rfl (pr_ext (vs := [(.slice B16 (aol (pkey job pp pr pa) (nonc pt pi) (paad pp pr pa pt pi q) b) d17), (.int .i64 (((aoe (pkey job pp pr pa) (nonc pt pi) (paad pp pr pa pt pi q) b) : Nat) : Int))]) rfl rfl rfl) (.inr rfl) rfl rfl ?_
 refine D_pure (i := 16) [2, 3, 4] rfl kr rfl (pr_ext (vs := [(.slice B16 (aol (pkey job pp pr pa) (nonc pt pi) (paad pp pr pa pt pi q) b) d17), (.int .i64 (((aoe (pkey job pp pr pa) (nonc pt pi) (paad pp pr pa pt pi q) b) : Nat) : Int))]) rfl rfl rfl) (.inr rfl) rfl rfl ?_
 refine D_pure (i := 17) [2, 3, 4] rfl kr rfl (pr_assign rfl rfl) (.inr rfl) rfl rfl ?_
 refine D_pure (i := 18) [2, 3, 4] rfl kr rfl (pr_assign rfl rfl) (.inr rfl) rfl rfl ?_
 refine D_done kr ?_
 refine T_seq ?_
 refine lT ?_
 refine lM ?_
 refine lO (pr_cmp (bo := .neq) (nc_ne (a := (aoe (pkey job pp pr pa) (nonc pt pi) (paad pp pr pa pt pi q) b)) (b := 0)) rfl rfl rfl rfl) ?_
 refine L_nil ?_
 refine T_cond ((aoe (pkey job pp pr pa) (nonc pt pi) (paad pp pr pa pt pi q) b) != 0) rfl (fun hc_18 => ?_) (fun hc_18 => ?_)
 ·have hc_18 : ¬ (aoe (pkey job pp pr pa) (nonc pt pi) (paad pp pr pa pt pi q) b) = 0 := by simpa using hc_18
  refine lT ?_
  refine lM ?_
  refine lS ?_
  refine lS ?_
  refine L_nil ?_
  refine T_ret ?_
  refine T_slot 8 (.slice none 0 0) (.slice none (bon job pp pr pa pt pi z b) 0) rfl (by rw [(bo_err aS hq aS).2.1]) ?_
  refine T_slot 9 _ (.int .i64 (((boe job pp pr pa pt pi z b) : Nat) : Int)) rfl (by rw [(bo_err aS hq aS).1]) ?_
  refine T_nilrow 37 4 ?_
  refine T_as 0 _ (.row (.slice none (bon job pp pr pa pt pi z b) 0) 37 4 (bon job pp pr pa pt pi z b) (rcs (bok job pp pr pa pt pi z b))) rfl (by rw [(bo_err aS hq aS).2.1, (bo_err aS hq aS).2.2]; rfl) ?_
  exact T_fin (none, 0) qN (res2 rfl rfl rfl) [0] ⟨by decide, rfl⟩ rfl
 have hc_18 : (aoe (pkey job pp pr pa) (nonc pt pi) (paad pp pr pa pt pi q) b) = 0 := by simpa using hc_18
 have hae : aoe (pkey job pp pr pa) (nonc pt pi) (paad pp pr pa pt pi q) b = 0 := by assumption
 have hal := aol_ok hb hae
 have hap := aob_ok hae
 have hapl := aplain_len (pkey job pp pr pa) (nonc pt pi) b
 refine T_as 0 _ (.row (.slice B16 (n - 16) d17) 5 1 (n - 16) ((aplain (pkey job pp pr pa) (nonc pt pi) b).map b8)) rfl (by rw [hal, hap]) ?_
 refine T_slot 10 _ (.slice B16 (n - 16) d17) rfl (by rw [hal]) ?_
 refine T_skip ?_
 refine lT ?_
 refine lM ?_
 refine lM ?_
 refine L_op rfl (op_cn (fun w hw => rbtake_f (aplain (pkey job pp pr pa) (nonc pt pi) b) z B16 (n - 16) d17 w (hok_cons ((src_row 0 rfl) w hw) (hok_nil w)) sd sd) (enters_of Tryz.func27 kr rfl) rfl rfl rfl rfl rfl (fun t19 q20 => ?_))
 obtain ⟨B21, e22⟩ := t19
 refine lO (pr_ext (vs := [(.slice B21 (btn (aplain (pkey job pp pr pa) (nonc pt pi) b) z) e22), (.int .i64 (((bte (aplain (pkey job pp pr pa) (nonc pt pi) b) z) : Nat) : Int))]) rfl rfl rfl) ?_
 refine lO (pr_ext (vs := [(.slice B21 (btn (aplain (pkey job pp pr pa) (nonc pt pi) b) z) e22), (.int .i64 (((bte (aplain (pkey job pp pr pa) (nonc pt pi) b) z) : Nat) : Int))]) rfl rfl rfl) ?_
 refine lS ?_
 refine lS ?_
 refine L_nil ?_
 refine T_ret ?_
 refine T_slot 8 _ (.slice B21 (bon job pp pr pa pt pi z b) e22) rfl (by rw [(bo_ok aS hq aS).2.1]) ?_
 refine T_slot 9 _ (.int .i64 (((boe job pp pr pa pt pi z b) : Nat) : Int)) rfl (by rw [(bo_ok aS hq aS).1]) ?_
 refine T_as 0 _ (.row (.slice B21 (bon job pp pr pa pt pi z b) e22) 37 4 (bon job pp pr pa pt pi z b) (rcs (bok job pp pr pa pt pi z b))) rfl (by rw [(bo_ok aS hq aS).2.1, (bo_ok aS hq aS).2.2]) ?_
 exact T_fin (B21, e22) qN (res2 rfl rfl rfl) [0] ⟨by decide, rfl⟩ rfl
end Go.Proofs.YtlplpmkdebemnaaGreat
namespace Go.Proofs.YtlplpmkdebemnaaGreat
set_option maxRecDepth 100000
open Go.RowKit Bv Fw
set_option maxHeartbeats 4000000 in
theorem rplain1_f (d : Bool) (vk : BitVec 64) (vv : BitVec 64) (vs : BitVec 64) (w : World) (hO : HOK [] w)  : Calls Tryz.prog 29 [(.agg [(.bool d), (.int .i64 (i64 vk)), (.int .i64 (i64 vv)), (.int .i64 (i64 vs))].toArray), (.agg [(.bool d), (.int .i64 (i64 vk)), (.int .i64 (i64 vv)), (.int .i64 (i64 vs))].toArray)].toArray w (Ret (T := Unit) [] w (fun _ => True) (fun _ => (.bool true)) (fun _ => [])) := by
 refine enter (c := _) Tryz.func29 rfl [] _ [] (by rw [Tryz.ntmps29]; rfl) (own_rds hO rfl) ?_
 rw [Tryz.ntmps29]
 refine lE [(0, (.agg [(.bool d), (.int .i64 (i64 vk)), (.int .i64 (i64 vv)), (.int .i64 (i64 vs))].toArray)), (1, (.agg [(.bool d), (.int .i64 (i64 vk)), (.int .i64 (i64 vv)), (.int .i64 (i64 vs))].toArray))] ?_
 refine lH [] [] ?_
 refine lT ?_
 refine L_op rfl (op_box (zs := [(.bool d), (.int .i64 (i64 vk)), (.int .i64 (i64 vv)), (.int .i64 (i64 vs))]) rfl rfl rfl rfl rfl (fun g1 => ?_))
 refine L_op rfl (op_box (zs := [(.bool d), (.int .i64 (i64 vk)), (.int .i64 (i64 vv)), (.int .i64 (i64 vs))]) rfl rfl rfl rfl rfl (fun g2 => ?_))
 refine lS ?_
 refine lN ?_
 refine lQ (ld_agg (ds := [(.bool d), (.int .i64 (i64 vk)), (.int .i64 (i64 vv)), (.int .i64 (i64 vs))]) 1 rfl agg_all Tryz.underlying37 rfl kr rfl rfl) ?_
 refine lQ (ld_agg (ds := [(.bool d), (.int .i64 (i64 vk)), (.int .i64 (i64 vv)), (.int .i64 (i64 vs))]) 0 rfl agg_all Tryz.underlying37 rfl kr rfl rfl) ?_
 refine lO (pr_eqs (bo := .eql) (c := true) (r := true) (fun _ _ => eqs Tryz.underlying37 kr (eqt rfl (part1 Tryz.underlying4 rfl rfl) (part1 Tryz.underlying4 rfl rfl) (eqv_sb Tryz.underlying4) (eqt rfl (part1 Tryz.underlying2 rfl rfl) (part1 Tryz.underlying2 rfl rfl) (eqv_si Tryz.underlying2) (eqt rfl (part1 Tryz.underlying2 rfl rfl) (part1 Tryz.underlying2 rfl rfl) (eqv_si Tryz.underlying2) (eqt rfl (part1 Tryz.underlying2 rfl rfl) (part1 Tryz.underlying2 rfl rfl) (eqv_si Tryz.underlying2) eqf_nil))))) kr rfl rfl rfl rfl rfl) ?_
 refine lS ?_
 refine L_nil ?_
 refine T_ret ?_
 exact T_fin () qN (res1 rfl rfl) [] ⟨by decide, rfl⟩ rfl
set_option maxHeartbeats 4000000 in
theorem rsame_f (xs : List Rc) (A : Option Addr) (n : Nat) (c : Nat) (B : Option Addr) (e : Nat) (w : World) (hO : HOK [.rd A 4 n c (rcs xs), .rd B 4 n e (rcs xs)] w) (hx : xs.length = n) (hn : n ≤ 1000000) : Calls Tryz.prog 28 [(.slice A n c), (.slice B n e), (.func (.func 29) #[] [].toArray)].toArray w (Ret (T := Unit) [] w (fun _ => True) (fun _ => (.bool true)) (fun _ => [])) := by
 have hF : Wid Fence.wide := wid_wide
 refine enter (c := _) Tryz.func28 rfl [] _ [.rd A 4 n c (rcs xs), .rd B 4 n e (rcs xs)] (by rw [Tryz.ntmps28]; rfl) (own_rds hO rfl) ?_
 rw [Tryz.ntmps28]
 refine lE [(0, (.slice A n c)), (1, (.slice B n e)), (2, (.func (.func 29) #[] [].toArray))] ?_
 refine lH [0, 1] [.rd A 4 n c (rcs xs), .rd B 4 n e (rcs xs)] ?_
 refine lT ?_
 refine lS ?_
 refine L_nil ?_
 refine T_seq ?_
 refine lT ?_
 refine lM ?_
 refine lO (pr_len_sl Tryz.underlying26 rfl rfl) ?_
 refine lM ?_
 refine lO (pr_len_sl Tryz.underlying26 rfl rfl) ?_
 refine lO (pr_cmp (bo := .neq) (nc_ne (a := n) (b := n)) rfl rfl rfl rfl) ?_
 refine L_nil ?_
 refine T_cond_no (t := (n != n)) rfl (by simp) ?_
 refine T_skip ?_
 refine T_seq ?_
 refine lT ?_
 refine lS ?_
 refine L_nil ?_
 refine T_block ?_
 refine T_loop (T := Nat) (fun k => k ≤ n) (fun k => [(0, (.slice A n c)), (1, (.slice B n e)), (2, (.func (.func 29) #[] [].toArray)), (7, (.int .i64 ((k : Nat) : Int)))]) (fun k => [.rd A 4 n c (rcs xs), .rd B 4 n e (rcs xs)]) (fun k => n - k) 0 pN (sc rfl (sc rfl (sc rfl (sc rfl sn)))) [0, 1] ⟨by decide, rfl⟩ ?_
 rintro k hp
 have hp : k ≤ n := hp
 refine lE [(0, (.slice A n c)), (1, (.slice B n e)), (2, (.func (.func 29) #[] [].toArray)), (7, (.int .i64 ((k : Nat) : Int)))] ?_
 refine lH [0, 1] [.rd A 4 n c (rcs xs), .rd B 4 n e (rcs xs)] ?_
 refine T_seq ?_
 refine lT ?_
 refine lM ?_
 refine lM ?_
 refine lO (pr_len_sl Tryz.underlying26 rfl rfl) ?_
 refine lO (pr_cmp (bo := .lss) (nc_lt (a := k) (b := n)) rfl rfl rfl rfl) ?_
 refine L_nil ?_
 refine T_cond (decide (k < n)) rfl (fun hc_1 => ?_) (fun hc_1 => ?_)
 ·have hc_1 := of_decide_eq_true hc_1
  refine T_skip ?_
  refine T_seq ?_
  refine T_block ?_
  refine T_seq ?_
  refine T_regD [.rd A 4 n c (rcs xs), .rd B 4 n e (rcs xs)] 11 11 #[false, false, false, false, false, false, false, false, false, false, false] hF kr kr ?_
  refine D_pure (i := 0) [0, 1] rfl kr rfl (pr_move rfl rfl) (.inr rfl) rfl rfl ?_
  refine D_pure (i := 1) [0, 1] rfl kr rfl (pr_move rfl rfl) (.inr rfl) rfl rfl ?_
  refine D_pure (i := 2) [0, 1] rfl kr rfl (pr_move rfl rfl) (.inr rfl) rfl rfl ?_
  refine D_pure (i := 3) [0, 1] rfl kr rfl (pr_ixs (j := k) (src_none (src_rd 0 rfl)) sd Tryz.underlying26 (z := 4) kr rfl rfl rfl) (.inr rfl) rfl rfl ?_
  refine D_pure (i := 5) [0, 1] rfl kr rfl (pr_move rfl rfl) (.inr rfl) rfl rfl ?_
  refine D_pure (i := 6) [0, 1] rfl kr rfl (pr_move rfl rfl) (.inr rfl) rfl rfl ?_
  refine D_pure (i := 7) [0, 1] rfl kr rfl (pr_ixs (j := k) (src_none (src_rd 1 rfl)) sd Tryz.underlying26 (z := 4) kr rfl rfl rfl) (.inr rfl) rfl rfl ?_
  refine D_take (i := 4) [0, 1] rfl kr rfl (ld_rc (j := k) (src_rd 0 rfl) sd Tryz.underlying37 rfl kr rfl rfl) rfl rfl rfl ?_
  refine D_take (i := 8) [0, 1] rfl kr rfl (ld_rc (j := k) (src_rd 1 rfl) sd Tryz.underlying37 rfl kr rfl rfl) rfl rfl rfl ?_
  refine D_one 9 _ rfl kr rfl (op_cn (fun w hw => rplain1_f ((rat xs k).d) ((rat xs k).k) ((rat xs k).v) ((rat xs k).s) w (hok_nil w) ) (enters_of Tryz.func29 kr rfl) rfl rfl rfl rfl rfl (fun t2 q3 => ?_))
  refine D_on [0, 1] rfl ?_
  refine D_pure (i := 10) [0, 1] rfl kr rfl (pr_un (v := .bool false) rfl rfl rfl) (.inr rfl) rfl rfl ?_
  refine D_done kr ?_
  refine T_cond_f rfl ?_
  refine T_skip ?_
  refine lR ?_
  refine lM ?_
  refine lO (pr_add (na_i64 (a := k) (b := 1) sd) rfl rfl rfl) ?_
  refine lS ?_
  refine L_nil ?_
  exact T_again (k + 1) pN pN (sc rfl (sc rfl (sc rfl (sc rfl sn)))) [0, 1] ⟨by decide, rfl⟩
 have hc_1 := of_decide_eq_false hc_1
 refine T_exit rfl ?_
 refine lT ?_
 refine lS ?_
 refine L_nil ?_
 refine T_ret ?_
 exact T_fin () qN (res1 rfl rfl) [] ⟨by decide, rfl⟩ rfl
set_option maxHeartbeats 4000000 in
theorem rplain_f (xs : List Rc) (A : Option Addr) (n : Nat) (c : Nat) (B : Option Addr) (e : Nat) (w : World) (hO : HOK [.rd A 4 n c (rcs xs), .rd B 4 n e (rcs xs)] w) (hx : xs.length = n) (hn : n ≤ 1000000) : Calls Tryz.prog 11 [(.slice A n c), (.slice B n e)].toArray w (Ret (T := Unit) [] w (fun _ => True) (fun _ => (.bool true)) (fun _ => [])) := by
 refine enter (c := _) Tryz.func11 rfl [] _ [.rd A 4 n c (rcs xs), .rd B 4 n e (rcs xs)] (by rw [Tryz.ntmps11]; rfl) (own_rds hO rfl) ?_
 rw [Tryz.ntmps11]
 refine lE [(0, (.slice A n c)), (1, (.slice B n e))] ?_
 refine lH [0, 1] [.rd A 4 n c (rcs xs), .rd B 4 n e (rcs xs)] ?_
 refine lT ?_
 refine lS ?_
 refine lN ?_
 refine lM ?_
 refine lM ?_
 refine L_op rfl (op_cn (fun w hw => rsame_f xs A n c B e w (hok_cons ((src_rd 0 rfl) w hw) (hok_cons ((src_rd 1 rfl) w hw) (hok_nil w))) sd sd) (enters_of Tryz.func28 kr rfl) rfl rfl rfl rfl rfl (fun t1 q2 => ?_))
 refine lS ?_
 refine L_nil ?_
 refine T_ret ?_
 exact T_fin () qN (res1 rfl rfl) [] ⟨by decide, rfl⟩ rfl
end Go.Proofs.YtlplpmkdebemnaaGreat
namespace Go.Proofs.YtlplpmkdebemnaaGreat
set_option maxRecDepth 100000
open Go.RowKit Bv Fw
theorem aw_e : bpe 1 ((2 : Nat) : Int) = 0 := by decide
theorem aw_l : bpl 1 ((2 : Nat) : Int) = 64 := by decide
theorem aw_b : (bpb [(Rc.mk false 1#64 0#64 0#64)] ((2 : Nat) : Int)).length = 64 := by rw [bpb_len (n := 1) rfl]; decide
theorem aw_8 : ath (bpb [(Rc.mk false 1#64 0#64 0#64)] ((2 : Nat) : Int)) 8 = 1#8 := by decide +kernel
theorem aw_32 : ath (bpb [(Rc.mk false 1#64 0#64 0#64)] ((2 : Nat) : Int)) 32 = 1#8 := by decide +kernel
set_option maxHeartbeats 4000000 in
theorem awake10_f  (w : World) (hO : HOK [] w)  : Calls Tryz.prog 5 [].toArray w (Ret (T := Unit) [] w (fun _ => True) (fun _ => (.bool true)) (fun _ => [])) := by
 refine enter (c := _) Tryz.func5 rfl [] _ [] (by rw [Tryz.ntmps5]; rfl) (own_rds hO rfl) ?_
 rw [Tryz.ntmps5]
 refine lE [] ?_
 refine lH [] [] ?_
 refine lT ?_
 refine lS ?_
 refine lN ?_
 refine lO (pr_build (qs := [(1, (.int .i64 ((1 : Nat) : Int)))]) (v := .agg [(.bool false), (.int .i64 ((1 : Nat) : Int)), (.int .i64 ((0 : Nat) : Int)), (.int .i64 ((0 : Nat) : Int))].toArray) (fun _ => by kernel_rfl) rfl rfl) ?_
 refine L_op rfl (op_bslice (e := 37) (zs := [(.bool false), (.int .i64 ((1 : Nat) : Int)), (.int .i64 ((0 : Nat) : Int)), (.int .i64 ((0 : Nat) : Int))]) (qs := [(0, (.agg [(.bool false), (.int .i64 ((1 : Nat) : Int)), (.int .i64 ((0 : Nat) : Int)), (.int .i64 ((0 : Nat) : Int))].toArray))]) (fun _ => by kernel_rfl) rfl rfl rfl rfl (fun g1 => ?_))
 refine L_op rfl (op_cn (fun w hw => bpack_f [(Rc.mk false 1#64 0#64 0#64)] ((2 : Nat) : Int) (some ⟨g1, 0, none⟩) 1 1 w (hok_cons ((src_blk (z := 4) (ds := [(.bool false), (.int .i64 ((1 : Nat) : Int)), (.int .i64 ((0 : Nat) : Int)), (.int .i64 ((0 : Nat) : Int))]) 0 rfl rfl rfl sd sd) w hw) (hok_nil w)) sd sd) (enters_of Tryz.func13 kr rfl) rfl rfl rfl rfl rfl (fun t2 q3 => ?_))
 obtain ⟨B4, e5⟩ := t2
 refine lM ?_
 refine lO (pr_ext (vs := [(.slice B4 (bpl 1 ((2 : Nat) : Int)) e5), (.int .i64 (((bpe 1 ((2 : Nat) : Int)) : Nat) : Int))]) rfl rfl rfl) ?_
 refine T_as 0 _ (.row (.slice B4 64 e5) 5 1 64 ((bpb [(Rc.mk false 1#64 0#64 0#64)] ((2 : Nat) : Int)).map b8)) rfl (by rw [aw_l]) ?_
 refine T_slot 7 _ (.slice B4 64 e5) rfl (by rw [aw_l]) ?_
 have hab := aw_b
 refine lO (pr_ext (vs := [(.slice B4 (bpl 1 ((2 : Nat) : Int)) e5), (.int .i64 (((bpe 1 ((2 : Nat) : Int)) : Nat) : Int))]) rfl rfl rfl) ?_
 refine lS ?_
 refine lS ?_
 refine lN ?_
 refine lM ?_
 refine lO (pr_cmp (bo := .eql) (nc_eq (a := (bpe 1 ((2 : Nat) : Int))) (b := 0)) rfl rfl rfl rfl) ?_
 refine lM ?_
 refine T_slot 11 (.bool ((bpe 1 ((2 : Nat) : Int)) == 0)) (.bool true) rfl (congrArg _ (by rw [aw_e]; rfl)) ?_
 refine lM ?_
 refine lO (pr_len_sl Tryz.underlying27 rfl rfl) ?_
 refine lO (pr_cmp (bo := .eql) (nc_eq (a := 64) (b := 64)) rfl rfl rfl rfl) ?_
 refine lO (pr_pick_t rfl rfl rfl) ?_
 refine lM ?_
 refine lM ?_
 refine lO (pr_ixs1 (j := 8) (src_none (src_row 0 rfl)) sd Tryz.underlying27 kr rfl rfl rfl) ?_
 refine lQ (ld_src (m := 8) (src_row 0 rfl) (get8 sd) Tryz.underlying5 rfl rfl rfl) ?_
 refine lO (pr_cmp (bo := .eql) (n8_beq (ath (bpb [(Rc.mk false 1#64 0#64 0#64)] ((2 : Nat) : Int)) 8) (1#8)) rfl rfl rfl rfl) ?_
 refine lO (pr_pick_t rfl rfl rfl) ?_
 refine lM ?_
 refine T_slot 22 _ (.bool true) rfl (congrArg _ (by rw [aw_8]; rfl)) ?_
 refine lM ?_
 refine lO (pr_ixs1 (j := 32) (src_none (src_row 0 rfl)) sd Tryz.underlying27 kr rfl rfl rfl) ?_
 refine lQ (ld_src (m := 32) (src_row 0 rfl) (get8 sd) Tryz.underlying5 rfl rfl rfl) ?_
 refine lO (pr_cmp (bo := .eql) (n8_beq (ath (bpb [(Rc.mk false 1#64 0#64 0#64)] ((2 : Nat) : Int)) 32) (1#8)) rfl rfl rfl rfl) ?_
 refine lO (pr_pick_t rfl rfl rfl) ?_
 refine lM ?_
 refine T_slot 28 _ (.bool true) rfl (congrArg _ (by rw [aw_32]; rfl)) ?_
 refine L_op rfl (op_cn (fun w hw => bsize_f ((2 : Nat) : Int) w (hok_nil w) ) (enters_of Tryz.func12 kr rfl) rfl rfl rfl rfl rfl (fun t9 q10 => ?_))
 refine lO (pr_cmp (bo := .eql) (k := .i64) (a := (bsz ((2 : Nat) : Int))) (b := ((80 : Nat) : Int)) (c := ((bsz ((2 : Nat) : Int)) == ((80 : Nat) : Int))) rfl rfl rfl rfl rfl) ?_
 refine lO (pr_pick_t rfl rfl rfl) ?_
 refine lS ?_
 refine L_nil ?_
 refine T_ret ?_
 refine T_slot 0 (.bool ((bsz ((2 : Nat) : Int)) == ((80 : Nat) : Int))) (.bool true) rfl (by rfl) ?_
 exact T_fin () qN (res1 rfl rfl) [] ⟨by decide, rfl⟩ rfl
end Go.Proofs.YtlplpmkdebemnaaGreat
namespace Go.Proofs.YtlplpmkdebemnaaGreat
set_option maxRecDepth 100000
open Go.RowKit Bv Fw
theorem rat_map {f : Rc → Rc} {l : List Rc} {k : Nat} (h : k < l.length) : rat (l.map f) k = f (rat l k) := by
  unfold rat
  rw [List.getD_eq_getElem?_getD, List.getD_eq_getElem?_getD, List.getElem?_map, List.getElem?_eq_getElem h]; rfl
theorem w_in {ws xs : List Rc} {n q k : Nat} (hw : (xs ++ List.replicate (q - n) rdead).map rnorm = ws) (hx : xs.length = n) (hn : n ≤ q) (hk : k < q) (h : k < n) (hd : (!(rat xs k).d) = true) : rat ws k = rat xs k := by
  rw [← hw, rat_map (by simp [hx]; omega), rat_in _ hx h]
  unfold rnorm; rw [if_neg (by simpa using hd)]
theorem w_dead {ws xs : List Rc} {n q k : Nat} (hw : (xs ++ List.replicate (q - n) rdead).map rnorm = ws) (hx : xs.length = n) (hn : n ≤ q) (hk : k < q) (h : k < n) (hd : (!(rat xs k).d) = false) : rat ws k = rdead := by
  rw [← hw, rat_map (by simp [hx]; omega), rat_in _ hx h]
  unfold rnorm; rw [if_pos (by simpa using hd)]
theorem w_out {ws xs : List Rc} {n q k : Nat} (hw : (xs ++ List.replicate (q - n) rdead).map rnorm = ws) (hx : xs.length = n) (hn : n ≤ q) (hk : k < q) (h : ¬ k < n) : rat ws k = rdead := by
  rw [← hw, rat_map (by simp [hx]; omega), rat_out hx h hk]; rfl
theorem bsz_q {q : Nat} (h8 : q ≤ 8) : bsz ((q : Nat) : Int) = ((32 * q + 16 : Nat) : Int) := by unfold bsz; omega
set_option maxRecDepth 100000 in
set_option maxHeartbeats 4000000 in
theorem blockBack_f (job : List (BitVec 8)) (pp : BitVec 64) (pr : BitVec 64) (pa : BitVec 64) (pt : BitVec 64) (pi : BitVec 64) (qp : BitVec 64) (qr : BitVec 64) (qa : BitVec 64) (qt : BitVec 64) (qi : BitVec 64) (xs : List Rc) (A : Option Addr) (n : Nat) (c : Nat) (ys : List Rc) (B : Option Addr) (m : Nat) (d : Nat) (fz : BitVec 64) (w : World) (hO : HOK [.rd A 4 n c (rcs xs), .rd B 4 m d (rcs ys)] w) (hj : job.length = 32) (hx : xs.length = n) (hy : ys.length = m) : Calls Tryz.prog 4 [(.agg (job.map b8).toArray), (.agg [(.int .i64 (i64 pp)), (.int .i64 (i64 pr)), (.int .i64 (i64 pa)), (b64 pt), (.int .i64 (i64 pi))].toArray), (.agg [(.int .i64 (i64 qp)), (.int .i64 (i64 qr)), (.int .i64 (i64 qa)), (b64 qt), (.int .i64 (i64 qi))].toArray), (.slice A n c), (.slice B m d), (.int .i64 (i64 fz))].toArray w (Ret (T := Unit) [] w (fun _ => True) (fun _ => (.bool true)) (fun _ => [])) := by
 have hF : Wid Fence.wide := wid_wide
 refine enter (c := _) Tryz.func4 rfl [] _ [.rd A 4 n c (rcs xs), .rd B 4 m d (rcs ys)] (by rw [Tryz.ntmps4]; rfl) (own_rds hO rfl) ?_
 rw [Tryz.ntmps4]
 refine lE [(0, (.agg (job.map b8).toArray)), (1, (.agg [(.int .i64 (i64 pp)), (.int .i64 (i64 pr)), (.int .i64 (i64 pa)), (b64 pt), (.int .i64 (i64 pi))].toArray)), (2, (.agg [(.int .i64 (i64 qp)), (.int .i64 (i64 qr)), (.int .i64 (i64 qa)), (b64 qt), (.int .i64 (i64 qi))].toArray)), (3, (.slice A n c)), (4, (.slice B m d)), (5, (.int .i64 (i64 fz)))] ?_
 refine lH [0, 1] [.rd A 4 n c (rcs xs), .rd B 4 m d (rcs ys)] ?_
 refine lT ?_
 refine L_op rfl (op_box (zs := (job.map b8)) rfl rfl rfl rfl rfl (fun g1 => ?_))
 refine L_op rfl (op_box (zs := [(.int .i64 (i64 pp)), (.int .i64 (i64 pr)), (.int .i64 (i64 pa)), (b64 pt), (.int .i64 (i64 pi))]) rfl rfl rfl rfl rfl (fun g2 => ?_))
 refine L_op rfl (op_box (zs := [(.int .i64 (i64 qp)), (.int .i64 (i64 qr)), (.int .i64 (i64 qa)), (b64 qt), (.int .i64 (i64 qi))]) rfl rfl rfl rfl rfl (fun g3 => ?_))
 refine lS ?_
 refine lN ?_
 refine lM ?_
 refine lO (pr_cv (zc_i64u fz) Tryz.underlying3 Tryz.underlying39 rfl rfl) ?_
 refine lO (pr_rem (a := fz.toNat) (b := 8) sd rfl rfl rfl) ?_
 refine lO (pr_cv (ni_i64 (a := fz.toNat % 8) sd) Tryz.underlying39 Tryz.underlying3 rfl rfl) ?_
 refine lO (pr_add (na_i64 (a := 1) (b := fz.toNat % 8) sd) rfl rfl rfl) ?_
 obtain ⟨q, hq⟩ : ∃ x : Nat, 1 + (fz.toNat % 8) = x := ⟨_, rfl⟩
 have hq1 : 1 ≤ q := by omega
 have hq8 : q ≤ 8 := by omega
 obtain ⟨n1, hn1⟩ : ∃ x : Nat, min n q = x := ⟨_, rfl⟩
 have hn1q : n1 ≤ q := by omega
 have hn1n : n1 ≤ n := by omega
 obtain ⟨xs1, hxs1⟩ : ∃ x, List.take n1 xs = x := ⟨_, rfl⟩
 have hx1 : xs1.length = n1 := by rw [← hxs1, List.length_take]; omega
 obtain ⟨m1, hm1⟩ : ∃ x : Nat, min m q = x := ⟨_, rfl⟩
 have hm1q : m1 ≤ q := by omega
 have hm1m : m1 ≤ m := by omega
 obtain ⟨ys1, hys1⟩ : ∃ x, List.take m1 ys = x := ⟨_, rfl⟩
 have hy1 : ys1.length = m1 := by rw [← hys1, List.length_take]; omega
 have hpl1 : (bpb xs1 ((q : Nat) : Int)).length = 32 * q := (bpb_len hx1).trans (bpl_q hq1 hq8 hn1q)
 have hpl2 : (bpb ys1 ((q : Nat) : Int)).length = 32 * q := (bpb_len hy1).trans (bpl_q hq1 hq8 hm1q)
 have hs1 : (aseal (pkey job pp pr pa) (nonc pt pi) (paad pp pr pa pt pi q) (bpb xs1 ((q : Nat) : Int))).length = 32 * q + 16 := by rw [aseal_len, hpl1]
 have hs2 : (aseal (pkey job pp pr pa) (nonc pt pi) (paad pp pr pa pt pi q) (bpb ys1 ((q : Nat) : Int))).length = 32 * q + 16 := by rw [aseal_len, hpl2]
 have hbt : bte (bpb xs1 ((q : Nat) : Int)) ((q : Nat) : Int) = 0 := bte_bpb hx1 hq1 hq8 hn1q
 have hbn : btn (bpb xs1 ((q : Nat) : Int)) ((q : Nat) : Int) = q := btn_ok hbt rfl
 obtain ⟨ws, hws⟩ : ∃ x, (xs1 ++ List.replicate (q - n1) rdead).map rnorm = x := ⟨_, rfl⟩
 have hbk : (btk (bpb xs1 ((q : Nat) : Int)) ((q : Nat) : Int)) = ws := (btk_bpb hx1 hq1 hq8 hn1q).trans hws
 have hwl : ws.length = q := by rw [← hws, List.length_map, List.length_append, List.length_replicate]; omega
 have hol := bok_len job qp qr qa qt qi ((q : Nat) : Int) (aseal (pkey job pp pr pa) (nonc pt pi) (paad pp pr pa pt pi q) (bpb xs1 ((q : Nat) : Int)))
 have hon := bon_le job qp qr qa qt qi ((q : Nat) : Int) (aseal (pkey job pp pr pa) (nonc pt pi) (paad pp pr pa pt pi q) (bpb xs1 ((q : Nat) : Int)))
 refine T_slot 29 (.int .i64 ((1 + (fz.toNat % 8) : Nat) : Int)) (.int .i64 ((q : Nat) : Int)) rfl (by rw [hq]) ?_
 refine lS ?_
 refine L_nil ?_
 refine T_seq ?_
 refine T_regD [.blk g3 25 [(.int .i64 (i64 qp)), (.int .i64 (i64 qr)), (.int .i64 (i64 qa)), (b64 qt), (.int .i64 (i64 qi))], .blk g2 25 [(.int .i64 (i64 pp)), (.int .i64 (i64 pr)), (.int .i64 (i64 pa)), (b64 pt), (.int .i64 (i64 pi))], .blk g1 22 (job.map b8), .rd A 4 n c (rcs xs), .rd B 4 m d (rcs ys)] 14 14 #[false, false, false, false, false, false, false, false, false, false, false, false, false, false] hF kr kr ?_
 refine D_pure (i := 0) [0, 1, 2, 3, 4] rfl kr rfl (pr_move rfl rfl) (.inr rfl) rfl rfl ?_
 refine D_pure (i := 1) [0, 1, 2, 3, 4] rfl kr rfl (pr_move rfl rfl) (.inr rfl) rfl rfl ?_
 refine D_pure (i := 2) [0, 1, 2, 3, 4] rfl kr rfl (pr_len_sl Tryz.underlying26 rfl rfl) (.inr rfl) rfl rfl ?_
 refine D_pure (i := 3) [0, 1, 2, 3, 4] rfl kr rfl (pr_move rfl rfl) (.inr rfl) rfl rfl ?_
 refine D_pure (i := 4) [0, 1, 2, 3, 4] rfl kr rfl ((pr_as (pr_min rfl rfl rfl) (nmin (k := .i64) (a := n) (b := q)))) (.inr rfl) rfl rfl ?_
 refine T_slot 34 (.int .i64 ((min n q : Nat) : Int)) (.int .i64 ((n1 : Nat) : Int)) rfl (by rw [hn1]) ?_
 refine D_pure (i := 6) [0, 1, 2, 3, 4] rfl kr rfl (pr_move rfl rfl) (.inr rfl) rfl rfl ?_
 refine D_pure (i := 7) [0, 1, 2, 3, 4] rfl kr rfl (pr_move rfl rfl) (.inr rfl) rfl rfl ?_
 refine D_pure (i := 8) [0, 1, 2, 3, 4] rfl kr rfl (pr_len_sl Tryz.underlying26 rfl rfl) (.inr rfl) rfl rfl ?_
 refine D_pure (i := 9) [0, 1, 2, 3, 4] rfl kr rfl (pr_move rfl rfl) (.inr rfl) rfl rfl ?_
 refine D_pure (i := 10) [0, 1, 2, 3, 4] rfl kr rfl ((pr_as (pr_min rfl rfl rfl) (nmin (k := .i64) (a := m) (b := q)))) (.inr rfl) rfl rfl ?_
 refine T_slot 40 (.int .i64 ((min m q : Nat) : Int)) (.int .i64 ((m1 : Nat) : Int)) rfl (by rw [hm1]) ?_
 refine D_join (T := Option Addr × Option Addr) (fun _ => True) (fun ⟨B4, B5⟩ => [(3, (.slice B4 n1 c)), (4, (.slice B5 m1 d)), (5, (.int .i64 ((q : Nat) : Int))), (6, (.pointer (some ⟨g1, 0, none⟩))), (7, (.pointer (some ⟨g2, 0, none⟩))), (8, (.pointer (some ⟨g3, 0, none⟩)))]) (fun ⟨B4, B5⟩ => [.rd B5 4 m1 d (rcs ys1), .rd B4 4 n1 c (rcs xs1), .blk g3 25 [(.int .i64 (i64 qp)), (.int .i64 (i64 qr)), (.int .i64 (i64 qa)), (b64 qt), (.int .i64 (i64 qi))], .blk g2 25 [(.int .i64 (i64 pp)), (.int .i64 (i64 pr)), (.int .i64 (i64 pa)), (b64 pt), (.int .i64 (i64 pi))], .blk g1 22 (job.map b8), .rd A 4 n c (rcs xs), .rd B 4 m d (rcs ys)]) ?_ ?_
 ·refine D_all [5, 11] kr (by simp) ⟨⟨_, rfl, rfl, ?_⟩, ⟨_, rfl, rfl, ?_⟩, trivial⟩
  ·refine id (op_slice_rd (l := 0) (u := n1) 3 rfl sd sd Tryz.underlying26 kr rfl rfl rfl ⟨_, rfl⟩ rfl rfl (fun B6 => ?_))
   refine T_as 0 _ (.rd B6 4 n1 c (rcs (List.take n1 xs))) rfl (by rw [rcs_drop, rcs_take]; rfl) ?_
   refine T_slot 35 _ (.slice B6 n1 c) rfl (by congr 1) ?_
   refine T_as 0 _ (.rd B6 4 n1 c (rcs xs1)) rfl (by rw [hxs1]) ?_
   refine D_on [1, 2, 3, 4, 5] rfl ?_
   refine D_pure (i := 12) [1, 2, 3, 4, 5] rfl kr rfl (pr_assign rfl rfl) (.inr rfl) rfl rfl ?_
   refine D_one 11 _ rfl kr rfl (op_slice_rd (l := 0) (u := m1) 5 rfl sd sd Tryz.underlying26 kr rfl rfl rfl ⟨_, rfl⟩ rfl rfl (fun B7 => ?_))
   refine T_as 0 _ (.rd B7 4 m1 d (rcs (List.take m1 ys))) rfl (by rw [rcs_drop, rcs_take]; rfl) ?_
   refine T_slot 41 _ (.slice B7 m1 d) rfl (by congr 1) ?_
   refine T_as 0 _ (.rd B7 4 m1 d (rcs ys1)) rfl (by rw [hys1]) ?_
   refine D_on [2, 3, 4, 5, 6] rfl ?_
   refine D_pure (i := 13) [2, 3, 4, 5, 6] rfl kr rfl (pr_assign rfl rfl) (.inr rfl) rfl rfl ?_
   refine D_done kr ?_
   exact T_meet (B6, B7) trivial (sc rfl (sc rfl (sc rfl (sc rfl (sc rfl (sc rfl sn)))))) [0, 1, 2, 3, 4, 5, 6] ⟨by decide, rfl⟩
  refine id (op_slice_rd (l := 0) (u := m1) 4 rfl sd sd Tryz.underlying26 kr rfl rfl rfl ⟨_, rfl⟩ rfl rfl (fun B8 => ?_))
  refine T_as 0 _ (.rd B8 4 m1 d (rcs (List.take m1 ys))) rfl (by rw [rcs_drop, rcs_take]; rfl) ?_
  refine T_slot 41 _ (.slice B8 m1 d) rfl (by congr 1) ?_
  refine T_as 0 _ (.rd B8 4 m1 d (rcs ys1)) rfl (by rw [hys1]) ?_
  refine D_on [1, 2, 3, 4, 5] rfl ?_
  refine D_one 5 _ rfl kr rfl (op_slice_rd (l := 0) (u := n1) 4 rfl sd sd Tryz.underlying26 kr rfl rfl rfl ⟨_, rfl⟩ rfl rfl (fun B9 => ?_))
  refine T_as 0 _ (.rd B9 4 n1 c (rcs (List.take n1 xs))) rfl (by rw [rcs_drop, rcs_take]; rfl) ?_
  refine T_slot 35 _ (.slice B9 n1 c) rfl (by congr 1) ?_
  refine T_as 0 _ (.rd B9 4 n1 c (rcs xs1)) rfl (by rw [hxs1]) ?_
  refine D_on [2, 3, 4, 5, 6] rfl ?_
  refine D_pure (i := 12) [2, 3, 4, 5, 6] rfl kr rfl (pr_assign rfl rfl) (.inr rfl) rfl rfl ?_
  refine D_pure (i := 13) [2, 3, 4, 5, 6] rfl kr rfl (pr_assign rfl rfl) (.inr rfl) rfl rfl ?_
  refine D_done kr ?_
  exact T_meet (B9, B8) trivial (sc rfl (sc rfl (sc rfl (sc rfl (sc rfl (sc rfl sn)))))) [1, 0, 2, 3, 4, 5, 6] ⟨by decide, rfl⟩
 rintro ⟨B4, B5⟩ -
 refine lE [(3, (.slice B4 n1 c)), (4, (.slice B5 m1 d)), (5, (.int .i64 ((q : Nat) : Int))), (6, (.pointer (some ⟨g1, 0, none⟩))), (7, (.pointer (some ⟨g2, 0, none⟩))), (8, (.pointer (some ⟨g3, 0, none⟩)))] ?_
 refine lH [0, 1, 2, 3, 4, 5, 6] [.rd B5 4 m1 d (rcs ys1), .rd B4 4 n1 c (rcs xs1), .blk g3 25 [(.int .i64 (i64 qp)), (.int .i64 (i64 qr)), (.int .i64 (i64 qa)), (b64 qt), (.int .i64 (i64 qi))], .blk g2 25 [(.int .i64 (i64 pp)), (.int .i64 (i64 pr)), (.int .i64 (i64 pa)), (b64 pt), (.int .i64 (i64 pi))], .blk g1 22 (job.map b8), .rd A 4 n c (rcs xs), .rd B 4 m d (rcs ys)] ?_
 refine lT ?_
 refine lQ (ld_agg (ds := (job.map b8)) 4 rfl agg_all Tryz.underlying22 rfl (fwz (n := 32) kr sd) rfl rfl) ?_
 refine lQ (ld_agg (ds := [(.int .i64 (i64 pp)), (.int .i64 (i64 pr)), (.int .i64 (i64 pa)), (b64 pt), (.int .i64 (i64 pi))]) 3 rfl agg_all Tryz.underlying25 rfl kr rfl rfl) ?_
 refine lM ?_
 refine lM ?_
 refine L_op rfl (op_cn (fun w hw => bseal_f job pp pr pa pt pi xs1 B4 n1 c q w (hok_cons ((src_rd 1 rfl) w hw) (hok_nil w)) aS aS sd sd sd) (enters_of Tryz.func6 kr rfl) rfl rfl rfl rfl rfl (fun t10 q11 => ?_))
 obtain ⟨B12, d13⟩ := t10
 refine lM ?_
 refine lO (pr_ext (vs := [(.slice B12 (32 * q + 16) d13), (.int .i64 ((0 : Nat) : Int))]) rfl rfl rfl) ?_
 refine T_old 0 rfl ?_
 refine T_tord 0 rfl ?_
 refine lO (pr_ext (vs := [(.slice B12 (32 * q + 16) d13), (.int .i64 ((0 : Nat) : Int))]) rfl rfl rfl) ?_
 refine lS ?_
 refine lS ?_
 refine lN ?_
 refine lQ (ld_agg (ds := (job.map b8)) 5 rfl agg_all Tryz.underlying22 rfl (fwz (n := 32) kr sd) rfl rfl) ?_
 refine lQ (ld_agg (ds := [(.int .i64 (i64 pp)), (.int .i64 (i64 pr)), (.int .i64 (i64 pa)), (b64 pt), (.int .i64 (i64 pi))]) 4 rfl agg_all Tryz.underlying25 rfl kr rfl rfl) ?_
 refine lM ?_
 refine lM ?_
 refine L_op rfl (op_cn (fun w hw => bseal_f job pp pr pa pt pi ys1 B5 m1 d q w (hok_cons ((src_rd 1 rfl) w hw) (hok_nil w)) aS aS sd sd sd) (enters_of Tryz.func6 kr rfl) rfl rfl rfl rfl rfl (fun t14 q15 => ?_))
 obtain ⟨B16, d17⟩ := t14
 refine lM ?_
 refine lO (pr_ext (vs := [(.slice B16 (32 * q + 16) d17), (.int .i64 ((0 : Nat) : Int))]) rfl rfl rfl) ?_
 refine T_old 0 rfl ?_
 refine T_tord 0 rfl ?_
 refine lO (pr_ext (vs := [(.slice B16 (32 * q + 16) d17), (.int .i64 ((0 : Nat) : Int))]) rfl rfl rfl) ?_
 refine lS ?_
 refine lS ?_
 refine lN ?_
 refine lQ (ld_agg (ds := (job.map b8)) 6 rfl agg_all Tryz.underlying22 rfl (fwz (n := 32) kr sd) rfl rfl) ?_
 refine lQ (ld_agg (ds := [(.int .i64 (i64 pp)), (.int .i64 (i64 pr)), (.int .i64 (i64 pa)), (b64 pt), (.int .i64 (i64 pi))]) 5 rfl agg_all Tryz.underlying25 rfl kr rfl rfl) ?_
 refine lM ?_
 refine lM ?_
 refine L_op rfl (op_cn (fun w hw => bopen_ok_f job pp pr pa pt pi (aseal (pkey job pp pr pa) (nonc pt pi) (paad pp pr pa pt pi q) (bpb xs1 ((q : Nat) : Int))) B12 (32 * q + 16) d13 q w (hok_cons ((src_rd 1 rfl) w hw) (hok_nil w)) aS aS sd sd sd sd (agood_seal _ _ _ _)) (enters_of Tryz.func8 kr rfl) rfl rfl rfl rfl rfl (fun t18 q19 => ?_))
 obtain ⟨E20, e21⟩ := t18
 refine lM ?_
 refine lO (pr_ext (vs := [(.slice E20 (btn (aplain (pkey job pp pr pa) (nonc pt pi) (aseal (pkey job pp pr pa) (nonc pt pi) (paad pp pr pa pt pi q) (bpb xs1 ((q : Nat) : Int)))) ((q : Nat) : Int)) e21), (.int .i64 (((bte (aplain (pkey job pp pr pa) (nonc pt pi) (aseal (pkey job pp pr pa) (nonc pt pi) (paad pp pr pa pt pi q) (bpb xs1 ((q : Nat) : Int)))) ((q : Nat) : Int)) : Nat) : Int))]) rfl rfl rfl) ?_
 refine T_slot 64 _ (.slice E20 q e21) rfl (by rw [aplain_seal, hbn]) ?_
 refine T_as 0 _ (.row (.slice E20 q e21) 37 4 q (rcs ws)) rfl (by rw [aplain_seal, hbn, hbk]) ?_
 refine T_old 0 rfl ?_
 refine T_tord 0 rfl ?_
 refine lO (pr_ext (vs := [(.slice E20 (btn (aplain (pkey job pp pr pa) (nonc pt pi) (aseal (pkey job pp pr pa) (nonc pt pi) (paad pp pr pa pt pi q) (bpb xs1 ((q : Nat) : Int)))) ((q : Nat) : Int)) e21), (.int .i64 (((bte (aplain (pkey job pp pr pa) (nonc pt pi) (aseal (pkey job pp pr pa) (nonc pt pi) (paad pp pr pa pt pi q) (bpb xs1 ((q : Nat) : Int)))) ((q : Nat) : Int)) : Nat) : Int))]) rfl rfl rfl) ?_
 refine T_slot 65 _ (.int .i64 ((0 : Nat) : Int)) rfl (by rw [aplain_seal, hbt]) ?_
 refine lS ?_
 refine lS ?_
 refine lN ?_
 refine lQ (ld_agg (ds := (job.map b8)) 7 rfl agg_all Tryz.underlying22 rfl (fwz (n := 32) kr sd) rfl rfl) ?_
 refine lQ (ld_agg (ds := [(.int .i64 (i64 qp)), (.int .i64 (i64 qr)), (.int .i64 (i64 qa)), (b64 qt), (.int .i64 (i64 qi))]) 5 rfl agg_all Tryz.underlying25 rfl kr rfl rfl) ?_
 refine lM ?_
 refine lM ?_
 refine L_op rfl (op_cn (fun w hw => bopenA_f job qp qr qa qt qi (aseal (pkey job pp pr pa) (nonc pt pi) (paad pp pr pa pt pi q) (bpb xs1 ((q : Nat) : Int))) B12 (32 * q + 16) d13 ((q : Nat) : Int) w (hok_cons ((src_rd 2 rfl) w hw) (hok_nil w)) aS aS sd) (enters_of Tryz.func8 kr rfl) rfl rfl rfl rfl rfl (fun t22 q23 => ?_))
 obtain ⟨E24, e25⟩ := t22
 refine lM ?_
 refine lO (pr_ext (vs := [(.slice E24 (bon job qp qr qa qt qi ((q : Nat) : Int) (aseal (pkey job pp pr pa) (nonc pt pi) (paad pp pr pa pt pi q) (bpb xs1 ((q : Nat) : Int)))) e25), (.int .i64 (((boe job qp qr qa qt qi ((q : Nat) : Int) (aseal (pkey job pp pr pa) (nonc pt pi) (paad pp pr pa pt pi q) (bpb xs1 ((q : Nat) : Int)))) : Nat) : Int))]) rfl rfl rfl) ?_
 refine lO (pr_ext (vs := [(.slice E24 (bon job qp qr qa qt qi ((q : Nat) : Int) (aseal (pkey job pp pr pa) (nonc pt pi) (paad pp pr pa pt pi q) (bpb xs1 ((q : Nat) : Int)))) e25), (.int .i64 (((boe job qp qr qa qt qi ((q : Nat) : Int) (aseal (pkey job pp pr pa) (nonc pt pi) (paad pp pr pa pt pi q) (bpb xs1 ((q : Nat) : Int)))) : Nat) : Int))]) rfl rfl rfl) ?_
 refine lS ?_
 refine lS ?_
 refine lN ?_
 refine lQ (ld_agg (ds := (job.map b8)) 8 rfl agg_all Tryz.underlying22 rfl (fwz (n := 32) kr sd) rfl rfl) ?_
 refine lQ (ld_agg (ds := [(.int .i64 (i64 qp)), (.int .i64 (i64 qr)), (.int .i64 (i64 qa)), (b64 qt), (.int .i64 (i64 qi))]) 6 rfl agg_all Tryz.underlying25 rfl kr rfl rfl) ?_
 refine lM ?_
 refine lM ?_
 refine L_op rfl (op_cn (fun w hw => rbopenA_f job qp qr qa qt qi (aseal (pkey job pp pr pa) (nonc pt pi) (paad pp pr pa pt pi q) (bpb xs1 ((q : Nat) : Int))) B12 (32 * q + 16) d13 ((q : Nat) : Int) w (hok_cons ((src_rd 3 rfl) w hw) (hok_nil w)) aS aS sd) (enters_of Tryz.func9 kr rfl) rfl rfl rfl rfl rfl (fun t26 q27 => ?_))
 obtain ⟨E28, e29⟩ := t26
 refine lM ?_
 refine lO (pr_ext (vs := [(.slice E28 (bon job qp qr qa qt qi ((q : Nat) : Int) (aseal (pkey job pp pr pa) (nonc pt pi) (paad pp pr pa pt pi q) (bpb xs1 ((q : Nat) : Int)))) e29), (.int .i64 (((boe job qp qr qa qt qi ((q : Nat) : Int) (aseal (pkey job pp pr pa) (nonc pt pi) (paad pp pr pa pt pi q) (bpb xs1 ((q : Nat) : Int)))) : Nat) : Int))]) rfl rfl rfl) ?_
 refine lO (pr_ext (vs := [(.slice E28 (bon job qp qr qa qt qi ((q : Nat) : Int) (aseal (pkey job pp pr pa) (nonc pt pi) (paad pp pr pa pt pi q) (bpb xs1 ((q : Nat) : Int)))) e29), (.int .i64 (((boe job qp qr qa qt qi ((q : Nat) : Int) (aseal (pkey job pp pr pa) (nonc pt pi) (paad pp pr pa pt pi q) (bpb xs1 ((q : Nat) : Int)))) : Nat) : Int))]) rfl rfl rfl) ?_
 refine lS ?_
 refine lS ?_
 refine L_nil ?_
 refine T_seq ?_
 refine lT ?_
 refine L_op rfl (op_cn (fun w hw => awake10_f  w (hok_nil w) ) (enters_of Tryz.func5 kr rfl) rfl rfl rfl rfl rfl (fun t30 q31 => ?_))
 refine lO (pr_un (v := .bool false) rfl rfl rfl) ?_
 refine lM ?_
 refine lM ?_
 refine lO (pr_cmp (bo := .neq) (nc_ne (a := 0) (b := 0)) rfl rfl rfl rfl) ?_
 refine lO (pr_pick_f rfl rfl rfl) ?_
 refine lM ?_
 refine lM ?_
 refine lO (pr_cmp (bo := .neq) (nc_ne (a := 0) (b := 0)) rfl rfl rfl rfl) ?_
 refine lO (pr_pick_f rfl rfl rfl) ?_
 refine lM ?_
 refine lM ?_
 refine lO (pr_cmp (bo := .neq) (nc_ne (a := 0) (b := 0)) rfl rfl rfl rfl) ?_
 refine lO (pr_pick_f rfl rfl rfl) ?_
 refine lM ?_
 refine lM ?_
 refine lO (pr_len_sl Tryz.underlying27 rfl rfl) ?_
 refine lM ?_
 refine L_op rfl (op_cn (fun w hw => bsize_f ((q : Nat) : Int) w (hok_nil w) ) (enters_of Tryz.func12 kr rfl) rfl rfl rfl rfl rfl (fun t32 q33 => ?_))
 refine lO (pr_cmp (bo := .neq) (k := .i64) (a := ((32 * q + 16 : Nat) : Int)) (b := (bsz ((q : Nat) : Int))) (c := (((32 * q + 16 : Nat) : Int) != (bsz ((q : Nat) : Int)))) rfl rfl rfl rfl rfl) ?_
 refine lO (pr_pick_f rfl rfl rfl) ?_
 refine lM ?_
 refine T_slot 103 _ (.bool false) rfl (congrArg _ (by rw [bsz_q hq8]; simp)) ?_
 refine lM ?_
 refine lO (pr_len_sl Tryz.underlying27 rfl rfl) ?_
 refine lM ?_
 refine lO (pr_len_sl Tryz.underlying27 rfl rfl) ?_
 refine lO (pr_cmp (bo := .neq) (nc_ne (a := 32 * q + 16) (b := 32 * q + 16)) rfl rfl rfl rfl) ?_
 refine lO (pr_pick_f rfl rfl rfl) ?_
 refine lM ?_
 refine T_slot 110 (.bool (32 * q + 16 != 32 * q + 16)) (.bool false) rfl (congrArg _ (by simp)) ?_
 refine lM ?_
 refine lO (pr_len_sl Tryz.underlying26 rfl rfl) ?_
 refine lM ?_
 refine lO (pr_cmp (bo := .neq) (nc_ne (a := q) (b := q)) rfl rfl rfl rfl) ?_
 refine lO (pr_pick_f rfl rfl rfl) ?_
 refine lM ?_
 refine T_slot 116 (.bool (q != q)) (.bool false) rfl (congrArg _ (by simp)) ?_
 refine lM ?_
 refine lM ?_
 refine lO (pr_cmp (bo := .neq) (nc_ne (a := (boe job qp qr qa qt qi ((q : Nat) : Int) (aseal (pkey job pp pr pa) (nonc pt pi) (paad pp pr pa pt pi q) (bpb xs1 ((q : Nat) : Int))))) (b := (boe job qp qr qa qt qi ((q : Nat) : Int) (aseal (pkey job pp pr pa) (nonc pt pi) (paad pp pr pa pt pi q) (bpb xs1 ((q : Nat) : Int)))))) rfl rfl rfl rfl) ?_
 refine lO (pr_pick_f rfl rfl rfl) ?_
 refine lM ?_
 refine T_slot 121 _ (.bool false) rfl (congrArg _ (by simp)) ?_
 refine lM ?_
 refine lM ?_
 refine L_op rfl (op_cn (fun w hw => rplain_f (bok job qp qr qa qt qi ((q : Nat) : Int) (aseal (pkey job pp pr pa) (nonc pt pi) (paad pp pr pa pt pi q) (bpb xs1 ((q : Nat) : Int)))) E24 (bon job qp qr qa qt qi ((q : Nat) : Int) (aseal (pkey job pp pr pa) (nonc pt pi) (paad pp pr pa pt pi q) (bpb xs1 ((q : Nat) : Int)))) e25 E28 e29 w (hok_cons ((src_row 1 rfl) w hw) (hok_cons ((src_row 0 rfl) w hw) (hok_nil w))) sd sd) (enters_of Tryz.func11 kr rfl) rfl rfl rfl rfl rfl (fun t38 q39 => ?_))
 refine lO (pr_un (v := .bool false) rfl rfl rfl) ?_
 refine lO (pr_pick_f rfl rfl rfl) ?_
 refine L_nil ?_
 refine T_cond_f rfl ?_
 refine T_skip ?_
 refine T_seq ?_
 refine lT ?_
 refine lS ?_
 refine L_nil ?_
 refine T_block ?_
 refine T_loop (T := Nat) (fun k => k ≤ q) (fun k => [(3, (.slice B4 n1 c)), (5, (.int .i64 ((q : Nat) : Int))), (17, (.slice E20 q e21)), (23, (.int .i64 ((k : Nat) : Int)))]) (fun k => [.row (.slice E28 (bon job qp qr qa qt qi ((q : Nat) : Int) (aseal (pkey job pp pr pa) (nonc pt pi) (paad pp pr pa pt pi q) (bpb xs1 ((q : Nat) : Int)))) e29) 37 4 (bon job qp qr qa qt qi ((q : Nat) : Int) (aseal (pkey job pp pr pa) (nonc pt pi) (paad pp pr pa pt pi q) (bpb xs1 ((q : Nat) : Int)))) (rcs (bok job qp qr qa qt qi ((q : Nat) : Int) (aseal (pkey job pp pr pa) (nonc pt pi) (paad pp pr pa pt pi q) (bpb xs1 ((q : Nat) : Int))))), .row (.slice E24 (bon job qp qr qa qt qi ((q : Nat) : Int) (aseal (pkey job pp pr pa) (nonc pt pi) (paad pp pr pa pt pi q) (bpb xs1 ((q : Nat) : Int)))) e25) 37 4 (bon job qp qr qa qt qi ((q : Nat) : Int) (aseal (pkey job pp pr pa) (nonc pt pi) (paad pp pr pa pt pi q) (bpb xs1 ((q : Nat) : Int)))) (rcs (bok job qp qr qa qt qi ((q : Nat) : Int) (aseal (pkey job pp pr pa) (nonc pt pi) (paad pp pr pa pt pi q) (bpb xs1 ((q : Nat) : Int))))), .rd E20 4 q e21 (rcs ws), .rd B16 1 (32 * q + 16) d17 ((aseal (pkey job pp pr pa) (nonc pt pi) (paad pp pr pa pt pi q) (bpb ys1 ((q : Nat) : Int))).map b8), .rd B12 1 (32 * q + 16) d13 ((aseal (pkey job pp pr pa) (nonc pt pi) (paad pp pr pa pt pi q) (bpb xs1 ((q : Nat) : Int))).map b8), .rd B5 4 m1 d (rcs ys1), .rd B4 4 n1 c (rcs xs1), .blk g3 25 [(.int .i64 (i64 qp)), (.int .i64 (i64 qr)), (.int .i64 (i64 qa)), (b64 qt), (.int .i64 (i64 qi))], .blk g2 25 [(.int .i64 (i64 pp)), (.int .i64 (i64 pr)), (.int .i64 (i64 pa)), (b64 pt), (.int .i64 (i64 pi))], .blk g1 22 (job.map b8), .rd A 4 n c (rcs xs), .rd B 4 m d (rcs ys)]) (fun k => q - k) 0 pN (sc rfl (sc rfl (sc rfl (sc rfl sn)))) [0, 1, 2, 3, 4, 5, 6, 7, 8, 9, 10, 11] ⟨by decide, rfl⟩ ?_
 rintro k hp
 have hp : k ≤ q := hp
 refine lE [(3, (.slice B4 n1 c)), (5, (.int .i64 ((q : Nat) : Int))), (17, (.slice E20 q e21)), (23, (.int .i64 ((k : Nat) : Int)))] ?_
 refine lH [0, 1, 2, 3, 4, 5, 6, 7, 8, 9, 10, 11] [.row (.slice E28 (bon job qp qr qa qt qi ((q : Nat) : Int) (aseal (pkey job pp pr pa) (nonc pt pi) (paad pp pr pa pt pi q) (bpb xs1 ((q : Nat) : Int)))) e29) 37 4 (bon job qp qr qa qt qi ((q : Nat) : Int) (aseal (pkey job pp pr pa) (nonc pt pi) (paad pp pr pa pt pi q) (bpb xs1 ((q : Nat) : Int)))) (rcs (bok job qp qr qa qt qi ((q : Nat) : Int) (aseal (pkey job pp pr pa) (nonc pt pi) (paad pp pr pa pt pi q) (bpb xs1 ((q : Nat) : Int))))), .row (.slice E24 (bon job qp qr qa qt qi ((q : Nat) : Int) (aseal (pkey job pp pr pa) (nonc pt pi) (paad pp pr pa pt pi q) (bpb xs1 ((q : Nat) : Int)))) e25) 37 4 (bon job qp qr qa qt qi ((q : Nat) : Int) (aseal (pkey job pp pr pa) (nonc pt pi) (paad pp pr pa pt pi q) (bpb xs1 ((q : Nat) : Int)))) (rcs (bok job qp qr qa qt qi ((q : Nat) : Int) (aseal (pkey job pp pr pa) (nonc pt pi) (paad pp pr pa pt pi q) (bpb xs1 ((q : Nat) : Int))))), .rd E20 4 q e21 (rcs ws), .rd B16 1 (32 * q + 16) d17 ((aseal (pkey job pp pr pa) (nonc pt pi) (paad pp pr pa pt pi q) (bpb ys1 ((q : Nat) : Int))).map b8), .rd B12 1 (32 * q + 16) d13 ((aseal (pkey job pp pr pa) (nonc pt pi) (paad pp pr pa pt pi q) (bpb xs1 ((q : Nat) : Int))).map b8), .rd B5 4 m1 d (rcs ys1), .rd B4 4 n1 c (rcs xs1), .blk g3 25 [(.int .i64 (i64 qp)), (.int .i64 (i64 qr)), (.int .i64 (i64 qa)), (b64 qt), (.int .i64 (i64 qi))], .blk g2 25 [(.int .i64 (i64 pp)), (.int .i64 (i64 pr)), (.int .i64 (i64 pa)), (b64 pt), (.int .i64 (i64 pi))], .blk g1 22 (job.map b8), .rd A 4 n c (rcs xs), .rd B 4 m d (rcs ys)] ?_
 refine T_seq ?_
 refine lT ?_
 refine lM ?_
 refine lM ?_
 refine lO (pr_cmp (bo := .lss) (nc_lt (a := k) (b := q)) rfl rfl rfl rfl) ?_
 refine L_nil ?_
 refine T_cond (decide (k < q)) rfl (fun hc_40 => ?_) (fun hc_40 => ?_)
 ·have hc_40 := of_decide_eq_true hc_40
  refine T_skip ?_
  refine T_seq ?_
  refine T_block ?_
  refine lT ?_
  refine lO (pr_build (qs := [(0, (.bool true))]) (v := .agg [(.bool true), (.int .i64 ((0 : Nat) : Int)), (.int .i64 ((0 : Nat) : Int)), (.int .i64 ((0 : Nat) : Int))].toArray) (fun _ => by kernel_rfl) rfl rfl) ?_
  refine L_op rfl (op_alloc (z := .agg [(.bool false), (.int .i64 ((0 : Nat) : Int)), (.int .i64 ((0 : Nat) : Int)), (.int .i64 ((0 : Nat) : Int))].toArray) (zs := [(.bool false), (.int .i64 ((0 : Nat) : Int)), (.int .i64 ((0 : Nat) : Int)), (.int .i64 ((0 : Nat) : Int))]) kr rfl rfl rfl rfl (fun g41 => ?_))
  refine L_op rfl (op_sto (n := 4) (vs := [(.bool true), (.int .i64 ((0 : Nat) : Int)), (.int .i64 ((0 : Nat) : Int)), (.int .i64 ((0 : Nat) : Int))]) 0 rfl rfl kr (by simp [Value.oneCell']) kr kr rfl rfl rfl rfl ?_)
  refine L_nil ?_
  refine T_seq ?_
  refine lT ?_
  refine lM ?_
  refine lM ?_
  refine lO (pr_len_sl Tryz.underlying26 rfl rfl) ?_
  refine lO (pr_cmp (bo := .lss) (nc_lt (a := k) (b := n1)) rfl rfl rfl rfl) ?_
  refine lM ?_
  rcases Bool.eq_false_or_eq_true (decide (k < n1)) with hc_42 | hc_42
  ·refine T_slot 137 (.bool (decide (k < n1))) (.bool true) rfl (congrArg _ hc_42) ?_
   refine T_slot 136 (.bool (decide (k < n1))) (.bool true) rfl (congrArg _ hc_42) ?_
   have hc_42 := of_decide_eq_true hc_42
   refine lM ?_
   refine lM ?_
   refine lO (pr_ixs (j := k) (src_none (src_rd 7 rfl)) sd Tryz.underlying26 (z := 4) kr rfl rfl rfl) ?_
   refine lO (pr_fap (z := 0) (by rfl) Tryz.underlying37 rfl kr rfl rfl) ?_
   refine lQ (ld_src (m := k * 4) (src_rd 7 rfl) (rcs_dead sd) Tryz.underlying4 rfl rfl rfl) ?_
   refine lO (pr_un rfl rfl rfl) ?_
   refine lO (pr_pick_t rfl rfl rfl) ?_
   refine L_nil ?_
   refine T_cond (!((rat xs1 k).d)) rfl (fun hc_43 => ?_) (fun hc_43 => ?_)
   ·refine lR ?_
    refine lM ?_
    refine lM ?_
    refine lO (pr_ixs (j := k) (src_none (src_rd 7 rfl)) sd Tryz.underlying26 (z := 4) kr rfl rfl rfl) ?_
    refine lQ (ld_rc (j := k) (src_rd 7 rfl) sd Tryz.underlying37 rfl kr rfl rfl) ?_
    refine L_op rfl (op_sto (n := 4) (vs := [(.bool ((rat xs1 k).d)), (.int .i64 (i64 (rat xs1 k).k)), (.int .i64 (i64 (rat xs1 k).v)), (.int .i64 (i64 (rat xs1 k).s))]) 0 rfl rfl kr (by simp [Value.oneCell']) kr kr rfl rfl rfl rfl ?_)
    refine L_nil ?_
    refine T_seq ?_
    refine T_regD [.blk g41 37 [(.bool ((rat xs1 k).d)), (.int .i64 (i64 (rat xs1 k).k)), (.int .i64 (i64 (rat xs1 k).v)), (.int .i64 (i64 (rat xs1 k).s))], .row (.slice E28 (bon job qp qr qa qt qi ((q : Nat) : Int) (aseal (pkey job pp pr pa) (nonc pt pi) (paad pp pr pa pt pi q) (bpb xs1 ((q : Nat) : Int)))) e29) 37 4 (bon job qp qr qa qt qi ((q : Nat) : Int) (aseal (pkey job pp pr pa) (nonc pt pi) (paad pp pr pa pt pi q) (bpb xs1 ((q : Nat) : Int)))) (rcs (bok job qp qr qa qt qi ((q : Nat) : Int) (aseal (pkey job pp pr pa) (nonc pt pi) (paad pp pr pa pt pi q) (bpb xs1 ((q : Nat) : Int))))), .row (.slice E24 (bon job qp qr qa qt qi ((q : Nat) : Int) (aseal (pkey job pp pr pa) (nonc pt pi) (paad pp pr pa pt pi q) (bpb xs1 ((q : Nat) : Int)))) e25) 37 4 (bon job qp qr qa qt qi ((q : Nat) : Int) (aseal (pkey job pp pr pa) (nonc pt pi) (paad pp pr pa pt pi q) (bpb xs1 ((q : Nat) : Int)))) (rcs (bok job qp qr qa qt qi ((q : Nat) : Int) (aseal (pkey job pp pr pa) (nonc pt pi) (paad pp pr pa pt pi q) (bpb xs1 ((q : Nat) : Int))))), .rd E20 4 q e21 (rcs ws), .rd B16 1 (32 * q + 16) d17 ((aseal (pkey job pp pr pa) (nonc pt pi) (paad pp pr pa pt pi q) (bpb ys1 ((q : Nat) : Int))).map b8), .rd B12 1 (32 * q + 16) d13 ((aseal (pkey job pp pr pa) (nonc pt pi) (paad pp pr pa pt pi q) (bpb xs1 ((q : Nat) : Int))).map b8), .rd B5 4 m1 d (rcs ys1), .rd B4 4 n1 c (rcs xs1), .blk g3 25 [(.int .i64 (i64 qp)), (.int .i64 (i64 qr)), (.int .i64 (i64 qa)), (b64 qt), (.int .i64 (i64 qi))], .blk g2 25 [(.int .i64 (i64 pp)), (.int .i64 (i64 pr)), (.int .i64 (i64 pa)), (b64 pt), (.int .i64 (i64 pi))], .blk g1 22 (job.map b8), .rd A 4 n c (rcs xs), .rd B 4 m d (rcs ys)] 6 6 #[false, false, false, false, false, false] hF kr kr ?_
    refine D_pure (i := 0) [0, 1, 2, 3, 4, 5, 6, 7, 8, 9, 10, 11, 12] rfl kr rfl (pr_move rfl rfl) (.inr rfl) rfl rfl ?_
    refine D_pure (i := 1) [0, 1, 2, 3, 4, 5, 6, 7, 8, 9, 10, 11, 12] rfl kr rfl (pr_move rfl rfl) (.inr rfl) rfl rfl ?_
    refine D_pure (i := 2) [0, 1, 2, 3, 4, 5, 6, 7, 8, 9, 10, 11, 12] rfl kr rfl (pr_ixs (j := k) (src_none (src_rd 3 rfl)) sd Tryz.underlying26 (z := 4) kr rfl rfl rfl) (.inr rfl) rfl rfl ?_
    refine D_take (i := 3) [0, 1, 2, 3, 4, 5, 6, 7, 8, 9, 10, 11, 12] rfl kr rfl (ld_rc (j := k) (src_rd 3 rfl) sd Tryz.underlying37 rfl kr rfl rfl) rfl rfl rfl ?_
    refine T_slot 152 _ (.agg [(.bool ((rat xs1 k).d)), (.int .i64 (i64 (rat xs1 k).k)), (.int .i64 (i64 (rat xs1 k).v)), (.int .i64 (i64 (rat xs1 k).s))].toArray) rfl (by rw [w_in hws hx1 hn1q aS aS aS]) ?_
    refine D_take (i := 4) [0, 1, 2, 3, 4, 5, 6, 7, 8, 9, 10, 11, 12] rfl kr rfl (ld_agg (ds := [(.bool ((rat xs1 k).d)), (.int .i64 (i64 (rat xs1 k).k)), (.int .i64 (i64 (rat xs1 k).v)), (.int .i64 (i64 (rat xs1 k).s))]) 0 rfl agg_all Tryz.underlying37 rfl kr rfl rfl) rfl rfl rfl ?_
    refine D_pure (i := 5) [0, 1, 2, 3, 4, 5, 6, 7, 8, 9, 10, 11, 12] rfl kr rfl (pr_eqs (bo := .neq) (c := true) (r := false) (fun _ _ => eqs Tryz.underlying37 kr (eqt rfl (part1 Tryz.underlying4 rfl rfl) (part1 Tryz.underlying4 rfl rfl) (eqv_sb Tryz.underlying4) (eqt rfl (part1 Tryz.underlying2 rfl rfl) (part1 Tryz.underlying2 rfl rfl) (eqv_si Tryz.underlying2) (eqt rfl (part1 Tryz.underlying2 rfl rfl) (part1 Tryz.underlying2 rfl rfl) (eqv_si Tryz.underlying2) (eqt rfl (part1 Tryz.underlying2 rfl rfl) (part1 Tryz.underlying2 rfl rfl) (eqv_si Tryz.underlying2) eqf_nil))))) kr rfl rfl rfl rfl rfl) (.inr rfl) rfl rfl ?_
    refine D_done kr ?_
    refine T_cond_f rfl ?_
    refine T_skip ?_
    refine lR ?_
    refine lM ?_
    refine lO (pr_add (na_i64 (a := k) (b := 1) sd) rfl rfl rfl) ?_
    refine lS ?_
    refine L_nil ?_
    exact T_again (k + 1) pN pN (sc rfl (sc rfl (sc rfl (sc rfl sn)))) [1, 2, 3, 4, 5, 6, 7, 8, 9, 10, 11, 12] ⟨by decide, rfl⟩
   refine T_skip ?_
   refine T_seq ?_
   refine T_regD [.blk g41 37 [(.bool true), (.int .i64 ((0 : Nat) : Int)), (.int .i64 ((0 : Nat) : Int)), (.int .i64 ((0 : Nat) : Int))], .row (.slice E28 (bon job qp qr qa qt qi ((q : Nat) : Int) (aseal (pkey job pp pr pa) (nonc pt pi) (paad pp pr pa pt pi q) (bpb xs1 ((q : Nat) : Int)))) e29) 37 4 (bon job qp qr qa qt qi ((q : Nat) : Int) (aseal (pkey job pp pr pa) (nonc pt pi) (paad pp pr pa pt pi q) (bpb xs1 ((q : Nat) : Int)))) (rcs (bok job qp qr qa qt qi ((q : Nat) : Int) (aseal (pkey job pp pr pa) (nonc pt pi) (paad pp pr pa pt pi q) (bpb xs1 ((q : Nat) : Int))))), .row (.slice E24 (bon job qp qr qa qt qi ((q : Nat) : Int) (aseal (pkey job pp pr pa) (nonc pt pi) (paad pp pr pa pt pi q) (bpb xs1 ((q : Nat) : Int)))) e25) 37 4 (bon job qp qr qa qt qi ((q : Nat) : Int) (aseal (pkey job pp pr pa) (nonc pt pi) (paad pp pr pa pt pi q) (bpb xs1 ((q : Nat) : Int)))) (rcs (bok job qp qr qa qt qi ((q : Nat) : Int) (aseal (pkey job pp pr pa) (nonc pt pi) (paad pp pr pa pt pi q) (bpb xs1 ((q : Nat) : Int))))), .rd E20 4 q e21 (rcs ws), .rd B16 1 (32 * q + 16) d17 ((aseal (pkey job pp pr pa) (nonc pt pi) (paad pp pr pa pt pi q) (bpb ys1 ((q : Nat) : Int))).map b8), .rd B12 1 (32 * q + 16) d13 ((aseal (pkey job pp pr pa) (nonc pt pi) (paad pp pr pa pt pi q) (bpb xs1 ((q : Nat) : Int))).map b8), .rd B5 4 m1 d (rcs ys1), .rd B4 4 n1 c (rcs xs1), .blk g3 25 [(.int .i64 (i64 qp)), (.int .i64 (i64 qr)), (.int .i64 (i64 qa)), (b64 qt), (.int .i64 (i64 qi))], .blk g2 25 [(.int .i64 (i64 pp)), (.int .i64 (i64 pr)), (.int .i64 (i64 pa)), (b64 pt), (.int .i64 (i64 pi))], .blk g1 22 (job.map b8), .rd A 4 n c (rcs xs), .rd B 4 m d (rcs ys)] 6 6 #[false, false, false, false, false, false] hF kr kr ?_
   refine D_pure (i := 0) [0, 1, 2, 3, 4, 5, 6, 7, 8, 9, 10, 11, 12] rfl kr rfl (pr_move rfl rfl) (.inr rfl) rfl rfl ?_
   refine D_pure (i := 1) [0, 1, 2, 3, 4, 5, 6, 7, 8, 9, 10, 11, 12] rfl kr rfl (pr_move rfl rfl) (.inr rfl) rfl rfl ?_
   refine D_pure (i := 2) [0, 1, 2, 3, 4, 5, 6, 7, 8, 9, 10, 11, 12] rfl kr rfl (pr_ixs (j := k) (src_none (src_rd 3 rfl)) sd Tryz.underlying26 (z := 4) kr rfl rfl rfl) (.inr rfl) rfl rfl ?_
   refine D_take (i := 3) [0, 1, 2, 3, 4, 5, 6, 7, 8, 9, 10, 11, 12] rfl kr rfl (ld_rc (j := k) (src_rd 3 rfl) sd Tryz.underlying37 rfl kr rfl rfl) rfl rfl rfl ?_
   refine T_slot 152 _ (.agg [(.bool true), (.int .i64 ((0 : Nat) : Int)), (.int .i64 ((0 : Nat) : Int)), (.int .i64 ((0 : Nat) : Int))].toArray) rfl (by rw [w_dead hws hx1 hn1q aS aS aS]; rfl) ?_
   refine D_take (i := 4) [0, 1, 2, 3, 4, 5, 6, 7, 8, 9, 10, 11, 12] rfl kr rfl (ld_agg (ds := [(.bool true), (.int .i64 ((0 : Nat) : Int)), (.int .i64 ((0 : Nat) : Int)), (.int .i64 ((0 : Nat) : Int))]) 0 rfl agg_all Tryz.underlying37 rfl kr rfl rfl) rfl rfl rfl ?_
   refine D_pure (i := 5) [0, 1, 2, 3, 4, 5, 6, 7, 8, 9, 10, 11, 12] rfl kr rfl (pr_eqs (bo := .neq) (c := true) (r := false) (fun _ _ => eqs Tryz.underlying37 kr (eqt rfl (part1 Tryz.underlying4 rfl rfl) (part1 Tryz.underlying4 rfl rfl) (eqv_sb Tryz.underlying4) (eqt rfl (part1 Tryz.underlying2 rfl rfl) (part1 Tryz.underlying2 rfl rfl) (eqv_si Tryz.underlying2) (eqt rfl (part1 Tryz.underlying2 rfl rfl) (part1 Tryz.underlying2 rfl rfl) (eqv_si Tryz.underlying2) (eqt rfl (part1 Tryz.underlying2 rfl rfl) (part1 Tryz.underlying2 rfl rfl) (eqv_si Tryz.underlying2) eqf_nil))))) kr rfl rfl rfl rfl rfl) (.inr rfl) rfl rfl ?_
   refine D_done kr ?_
   refine T_cond_f rfl ?_
   refine T_skip ?_
   refine lR ?_
   refine lM ?_
   refine lO (pr_add (na_i64 (a := k) (b := 1) sd) rfl rfl rfl) ?_
   refine lS ?_
   refine L_nil ?_
   exact T_again (k + 1) pN pN (sc rfl (sc rfl (sc rfl (sc rfl sn)))) [1, 2, 3, 4, 5, 6, 7, 8, 9, 10, 11, 12] ⟨by decide, rfl⟩
  refine T_slot 137 (.bool (decide (k < n1))) (.bool false) rfl (congrArg _ hc_42) ?_
  refine T_slot 136 (.bool (decide (k < n1))) (.bool false) rfl (congrArg _ hc_42) ?_
  have hc_42 := of_decide_eq_false hc_42
  refine L_skip rfl rfl rfl ?_
  refine L_skip rfl rfl rfl ?_
  refine L_skip rfl rfl rfl ?_
  refine L_skip rfl rfl rfl ?_
  refine L_skip rfl rfl rfl ?_
  refine L_skip rfl rfl rfl ?_
  refine lO (pr_pick_f rfl rfl rfl) ?_
  refine L_nil ?_
  refine T_cond_f rfl ?_
  refine T_skip ?_
  refine T_seq ?_
  refine T_regD [.blk g41 37 [(.bool true), (.int .i64 ((0 : Nat) : Int)), (.int .i64 ((0 : Nat) : Int)), (.int .i64 ((0 : Nat) : Int))], .row (.slice E28 (bon job qp qr qa qt qi ((q : Nat) : Int) (aseal (pkey job pp pr pa) (nonc pt pi) (paad pp pr pa pt pi q) (bpb xs1 ((q : Nat) : Int)))) e29) 37 4 (bon job qp qr qa qt qi ((q : Nat) : Int) (aseal (pkey job pp pr pa) (nonc pt pi) (paad pp pr pa pt pi q) (bpb xs1 ((q : Nat) : Int)))) (rcs (bok job qp qr qa qt qi ((q : Nat) : Int) (aseal (pkey job pp pr pa) (nonc pt pi) (paad pp pr pa pt pi q) (bpb xs1 ((q : Nat) : Int))))), .row (.slice E24 (bon job qp qr qa qt qi ((q : Nat) : Int) (aseal (pkey job pp pr pa) (nonc pt pi) (paad pp pr pa pt pi q) (bpb xs1 ((q : Nat) : Int)))) e25) 37 4 (bon job qp qr qa qt qi ((q : Nat) : Int) (aseal (pkey job pp pr pa) (nonc pt pi) (paad pp pr pa pt pi q) (bpb xs1 ((q : Nat) : Int)))) (rcs (bok job qp qr qa qt qi ((q : Nat) : Int) (aseal (pkey job pp pr pa) (nonc pt pi) (paad pp pr pa pt pi q) (bpb xs1 ((q : Nat) : Int))))), .rd E20 4 q e21 (rcs ws), .rd B16 1 (32 * q + 16) d17 ((aseal (pkey job pp pr pa) (nonc pt pi) (paad pp pr pa pt pi q) (bpb ys1 ((q : Nat) : Int))).map b8), .rd B12 1 (32 * q + 16) d13 ((aseal (pkey job pp pr pa) (nonc pt pi) (paad pp pr pa pt pi q) (bpb xs1 ((q : Nat) : Int))).map b8), .rd B5 4 m1 d (rcs ys1), .rd B4 4 n1 c (rcs xs1), .blk g3 25 [(.int .i64 (i64 qp)), (.int .i64 (i64 qr)), (.int .i64 (i64 qa)), (b64 qt), (.int .i64 (i64 qi))], .blk g2 25 [(.int .i64 (i64 pp)), (.int .i64 (i64 pr)), (.int .i64 (i64 pa)), (b64 pt), (.int .i64 (i64 pi))], .blk g1 22 (job.map b8), .rd A 4 n c (rcs xs), .rd B 4 m d (rcs ys)] 6 6 #[false, false, false, false, false, false] hF kr kr ?_
  refine D_pure (i := 0) [0, 1, 2, 3, 4, 5, 6, 7, 8, 9, 10, 11, 12] rfl kr rfl (pr_move rfl rfl) (.inr rfl) rfl rfl ?_
  refine D_pure (i := 1) [0, 1, 2, 3, 4, 5, 6, 7, 8, 9, 10, 11, 12] rfl kr rfl (pr_move rfl rfl) (.inr rfl) rfl rfl ?_
  refine D_pure (i := 2) [0, 1, 2, 3, 4, 5, 6, 7, 8, 9, 10, 11, 12] rfl kr rfl (pr_ixs (j := k) (src_none (src_rd 3 rfl)) sd Tryz.underlying26 (z := 4) kr rfl rfl rfl) (.inr rfl) rfl rfl ?_
  refine D_take (i := 3) [0, 1, 2, 3, 4, 5, 6, 7, 8, 9, 10, 11, 12] rfl kr rfl (ld_rc (j := k) (src_rd 3 rfl) sd Tryz.underlying37 rfl kr rfl rfl) rfl rfl rfl ?_
  refine T_slot 152 _ (.agg [(.bool true), (.int .i64 ((0 : Nat) : Int)), (.int .i64 ((0 : Nat) : Int)), (.int .i64 ((0 : Nat) : Int))].toArray) rfl (by rw [w_out hws hx1 hn1q aS aS]; rfl) ?_
  refine D_take (i := 4) [0, 1, 2, 3, 4, 5, 6, 7, 8, 9, 10, 11, 12] rfl kr rfl (ld_agg (ds := [(.bool true), (.int .i64 ((0 : Nat) : Int)), (.int .i64 ((0 : Nat) : Int)), (.int .i64 ((0 : Nat) : Int))]) 0 rfl agg_all Tryz.underlying37 rfl kr rfl rfl) rfl rfl rfl ?_
  refine D_pure (i := 5) [0, 1, 2, 3, 4, 5, 6, 7, 8, 9, 10, 11, 12] rfl kr rfl (pr_eqs (bo := .neq) (c := true) (r := false) (fun _ _ => eqs Tryz.underlying37 kr (eqt rfl (part1 Tryz.underlying4 rfl rfl) (part1 Tryz.underlying4 rfl rfl) (eqv_sb Tryz.underlying4) (eqt rfl (part1 Tryz.underlying2 rfl rfl) (part1 Tryz.underlying2 rfl rfl) (eqv_si Tryz.underlying2) (eqt rfl (part1 Tryz.underlying2 rfl rfl) (part1 Tryz.underlying2 rfl rfl) (eqv_si Tryz.underlying2) (eqt rfl (part1 Tryz.underlying2 rfl rfl) (part1 Tryz.underlying2 rfl rfl) (eqv_si Tryz.underlying2) eqf_nil))))) kr rfl rfl rfl rfl rfl) (.inr rfl) rfl rfl ?_
  refine D_done kr ?_
  refine T_cond_f rfl ?_
  refine T_skip ?_
  refine lR ?_
  refine lM ?_
  refine lO (pr_add (na_i64 (a := k) (b := 1) sd) rfl rfl rfl) ?_
  refine lS ?_
  refine L_nil ?_
  exact T_again (k + 1) pN pN (sc rfl (sc rfl (sc rfl (sc rfl sn)))) [1, 2, 3, 4, 5, 6, 7, 8, 9, 10, 11, 12] ⟨by decide, rfl⟩
 have hc_40 := of_decide_eq_false hc_40
 refine T_exit rfl ?_
 refine lT ?_
 refine lS ?_
 refine L_nil ?_
 refine T_ret ?_
 exact T_fin () qN (res1 rfl rfl) [] ⟨by decide, rfl⟩ rfl
end Go.Proofs.YtlplpmkdebemnaaGreat
namespace Go.Proofs.YtlplpmkdebemnaaGreat.blockBack
open Fw Go.ChangeShapes Go.WideShapes Go.ChangeAt Go.RowKit Bv
open Go.ChangeMaps (open_string shut_string)
theorem own : ownKnob Tryz.prog.godebug = none := by kernel_rfl
theorem laidOut : laidOutB Tryz.prog = true := by kernel_rfl
set_option maxRecDepth 100000 in
theorem lifted (os : Os) (started : os.Started) (H : Type) (enc : TypeId × Value → H) :
    ReturnsInHanded {} Tryz.checked os 4 .any (Rows.blockBackSpec.pre6 enc Tryz.prog Tryz.f4 Rows.blockBackRow.domain false) (Rows.blockBackSpec.post enc Tryz.prog Tryz.f4 false true false false) := by
  refine returnsInHanded_of_change (C := Tryz.checked) own started (by kernel_rfl) Tryz.func4
    (ChangeSpec.witness6 (enc := enc) (C := Tryz.checked) false ⟨#[], #[.agg (Array.replicate 32 (.int .u8 0)), .agg #[.int .i64 0, .int .i64 0, .int .i64 0, .int .u64 0, .int .i64 0], .agg #[.int .i64 0, .int .i64 0, .int .i64 0, .int .u64 0, .int .i64 0], .slice none 0 0, .slice none 0 0, .int .i64 0], []⟩ 8 (by kernel_rfl) (by kernel_rfl) (by kernel_rfl) (by kernel_rfl)) ?_
  intro W base args ds gs before hval0 hW hcnd _
  have hval : ∀ (j : Nat) t v, Tryz.f4.params[j]? = some t → args[j]? = some v → Value.okWide Tryz.prog W .any base t v := hval0
  have hW' := hW
  obtain ⟨p, q, hA0, hV, rfl, hfz, hnd⟩ := hW
  have hA : DataW.TrodAll enc Tryz.prog W 0 (fun _ => true) true Tryz.f4.params.toList args.toList ds p := hA0
  rw [Tryz.params4] at hA hval
  obtain ⟨v0, vs0, d0, ds0, p0, q0, hargs, rfl, rfl, h0, r0⟩ := trodAll_cons hA
  obtain ⟨v1, vs1, d1, ds1, p1, q1, rfl, rfl, rfl, h1, r1⟩ := trodAll_cons r0
  obtain ⟨v2, vs2, d2, ds2, p2, q2, rfl, rfl, rfl, h2, r2⟩ := trodAll_cons r1
  obtain ⟨v3, vs3, d3, ds3, p3, q3, rfl, rfl, rfl, h3, r3⟩ := trodAll_cons r2
  obtain ⟨v4, vs4, d4, ds4, p4, q4, rfl, rfl, rfl, h4, r4⟩ := trodAll_cons r3
  obtain ⟨v5, vs5, d5, ds5, p5, q5, rfl, rfl, rfl, h5, r5⟩ := trodAll_cons r4
  obtain ⟨rfl, rfl, rfl⟩ := trodAll_nil r5
  obtain rfl : args = #[v0, v1, v2, v3, v4, v5] := by cases args; simp_all
  obtain ⟨rfl, rfl⟩ := trodVars_none hV
  have k0 := h0
  have lt0 : ∀ x ∈ p0, x.block < W.heap.size := by obtain ⟨m, hm⟩ := k0; exact DataW.trod_lt m _ _ _ hm
  obtain ⟨fu0, hf0⟩ := h0
  obtain ⟨x0, hx0, rfl⟩ := open_arr (n := 32) n8 all8 Tryz.underlying22 Tryz.underlying5 (by kernel_rfl) (by kernel_rfl) (hval 0 22 v0 rfl rfl) hf0
  have k1 := h1
  have lt1 : ∀ x ∈ p1, x.block < W.heap.size := by obtain ⟨m, hm⟩ := k1; exact DataW.trod_lt m _ _ _ hm
  obtain ⟨fu1, hf1⟩ := h1
  obtain ⟨cs1, rfl, hl1, hs1⟩ := open_struct Tryz.underlying25 (hval 1 25 v1 rfl rfl) hf1
  have hl1 := hl1.trans (show _ = 5 by kernel_rfl)
  obtain ⟨c1_0, r1_0, rfl, hl1_0⟩ := cons_of hl1
  obtain ⟨c1_1, r1_1, rfl, hl1_1⟩ := cons_of hl1_0
  obtain ⟨c1_2, r1_2, rfl, hl1_2⟩ := cons_of hl1_1
  obtain ⟨c1_3, r1_3, rfl, hl1_3⟩ := cons_of hl1_2
  obtain ⟨c1_4, r1_4, rfl, hl1_4⟩ := cons_of hl1_3
  obtain rfl := List.length_eq_zero_iff.1 hl1_4
  obtain ⟨z1_0, rfl, w1_0⟩ := field_int hs1 0 rfl Tryz.underlying3 (by kernel_rfl) rfl
  obtain ⟨x1_0, rfl⟩ := exi64 w1_0
  obtain ⟨z1_1, rfl, w1_1⟩ := field_int hs1 1 rfl Tryz.underlying3 (by kernel_rfl) rfl
  obtain ⟨x1_1, rfl⟩ := exi64 w1_1
  obtain ⟨z1_2, rfl, w1_2⟩ := field_int hs1 2 rfl Tryz.underlying3 (by kernel_rfl) rfl
  obtain ⟨x1_2, rfl⟩ := exi64 w1_2
  obtain ⟨z1_3, rfl, w1_3⟩ := field_int hs1 3 rfl Tryz.underlying23 (by kernel_rfl) rfl
  obtain ⟨x1_3, rfl⟩ := ex64 w1_3
  obtain ⟨z1_4, rfl, w1_4⟩ := field_int hs1 4 rfl Tryz.underlying3 (by kernel_rfl) rfl
  obtain ⟨x1_4, rfl⟩ := exi64 w1_4
  clear hs1 hf1
  have k2 := h2
  have lt2 : ∀ x ∈ p2, x.block < W.heap.size := by obtain ⟨m, hm⟩ := k2; exact DataW.trod_lt m _ _ _ hm
  obtain ⟨fu2, hf2⟩ := h2
  obtain ⟨cs2, rfl, hl2, hs2⟩ := open_struct Tryz.underlying25 (hval 2 25 v2 rfl rfl) hf2
  have hl2 := hl2.trans (show _ = 5 by kernel_rfl)
  obtain ⟨c2_0, r2_0, rfl, hl2_0⟩ := cons_of hl2
  obtain ⟨c2_1, r2_1, rfl, hl2_1⟩ := cons_of hl2_0
  obtain ⟨c2_2, r2_2, rfl, hl2_2⟩ := cons_of hl2_1
  obtain ⟨c2_3, r2_3, rfl, hl2_3⟩ := cons_of hl2_2
  obtain ⟨c2_4, r2_4, rfl, hl2_4⟩ := cons_of hl2_3
  obtain rfl := List.length_eq_zero_iff.1 hl2_4
  obtain ⟨z2_0, rfl, w2_0⟩ := field_int hs2 0 rfl Tryz.underlying3 (by kernel_rfl) rfl
  obtain ⟨x2_0, rfl⟩ := exi64 w2_0
  obtain ⟨z2_1, rfl, w2_1⟩ := field_int hs2 1 rfl Tryz.underlying3 (by kernel_rfl) rfl
  obtain ⟨x2_1, rfl⟩ := exi64 w2_1
  obtain ⟨z2_2, rfl, w2_2⟩ := field_int hs2 2 rfl Tryz.underlying3 (by kernel_rfl) rfl
  obtain ⟨x2_2, rfl⟩ := exi64 w2_2
  obtain ⟨z2_3, rfl, w2_3⟩ := field_int hs2 3 rfl Tryz.underlying23 (by kernel_rfl) rfl
  obtain ⟨x2_3, rfl⟩ := ex64 w2_3
  obtain ⟨z2_4, rfl, w2_4⟩ := field_int hs2 4 rfl Tryz.underlying3 (by kernel_rfl) rfl
  obtain ⟨x2_4, rfl⟩ := exi64 w2_4
  clear hs2 hf2
  have k3 := h3
  have lt3 : ∀ x ∈ p3, x.block < W.heap.size := by obtain ⟨m, hm⟩ := k3; exact DataW.trod_lt m _ _ _ hm
  obtain ⟨A3, len3, cap3, rfl⟩ := okWide_slice Tryz.underlying26 (hval 3 26 v3 rfl rfl)
  obtain ⟨fu3, hf3⟩ := h3
  obtain ⟨x3, l3, w3⟩ := open_recs Tryz.underlying26 (by kernel_rfl) (rec_of Tryz.underlying37 rfl rfl rfl rfl rfl rfl rfl rfl Tryz.underlying4 Tryz.underlying2 Tryz.underlying2 Tryz.underlying2 (by kernel_rfl) (by kernel_rfl) (by kernel_rfl) (by kernel_rfl)) hf3
  have k4 := h4
  have lt4 : ∀ x ∈ p4, x.block < W.heap.size := by obtain ⟨m, hm⟩ := k4; exact DataW.trod_lt m _ _ _ hm
  obtain ⟨A4, len4, cap4, rfl⟩ := okWide_slice Tryz.underlying26 (hval 4 26 v4 rfl rfl)
  obtain ⟨fu4, hf4⟩ := h4
  obtain ⟨x4, l4, w4⟩ := open_recs Tryz.underlying26 (by kernel_rfl) (rec_of Tryz.underlying37 rfl rfl rfl rfl rfl rfl rfl rfl Tryz.underlying4 Tryz.underlying2 Tryz.underlying2 Tryz.underlying2 (by kernel_rfl) (by kernel_rfl) (by kernel_rfl) (by kernel_rfl)) hf4
  obtain ⟨a5, rfl, rfl, rfl, w5⟩ := open_int Tryz.underlying3 (hval 5 3 v5 rfl rfl) h5
  obtain ⟨x5, rfl⟩ := exi64 w5
  clear hA0 hval0
  have fin := blockBack_f x0 x1_0 x1_1 x1_2 x1_3 x1_4 x2_0 x2_1 x2_2 x2_3 x2_4 x3 A3 len3 cap3 x4 A4 len4 cap4 x5 W (hok_cons w3 (hok_cons w4 (hok_nil W))) hx0 l3 l4
  refine (law_of_ret fin).mono fun e W' ⟨he, bel⟩ => ?_
  subst he
  exact ⟨_, rfl, _, _, _, [], _, [], hW', trodAll_mk1 (shut_bool Tryz.underlying4 _), (trodAll_cons_mk (Below.trod laidOut (by kernel_rfl) (of_decide_eq_true (by kernel_rfl)) k0 bel lt0) (trodAll_cons_mk (Below.trod laidOut (by kernel_rfl) (of_decide_eq_true (by kernel_rfl)) k1 bel lt1) (trodAll_cons_mk (Below.trod laidOut (by kernel_rfl) (of_decide_eq_true (by kernel_rfl)) k2 bel lt2) (trodAll_cons_mk (Below.trod laidOut (by kernel_rfl) (of_decide_eq_true (by kernel_rfl)) k3 bel lt3) (trodAll_cons_mk (Below.trod laidOut (by kernel_rfl) (of_decide_eq_true (by kernel_rfl)) k4 bel lt4) (trodAll_cons_mk (shut_int Tryz.underlying3 w5) trodAll_mk0)))))), rfl, bel.frame _, fun h => by cases h⟩
theorem over : Rows.blockBackRow.holds Tryz.pinned (OpenSpec.ofChange Rows.blockBackSpec) :=
  OpenClaim.holds_of_wide 4 Tryz.f4 rfl rfl rfl rfl rfl rfl rfl ⟨rfl, rfl, rfl, rfl, rfl⟩ rfl rfl rfl rfl rfl (by kernel_rfl) Tryz.func4 (by kernel_rfl)
    (of_decide_eq_true (by kernel_rfl)) (by unfold Func.isWrapper; first | (rw [if_pos (by decide +kernel)]; kernel_rfl) | (rw [if_neg (by decide +kernel)]; exact ⟨rfl, rfl⟩))
    (fun os started H enc _ => lifted os started H enc)
theorem proved : Rows.BlockBackSaid := over
#print axioms proved
end Go.Proofs.YtlplpmkdebemnaaGreat.blockBack
