/- Proved: 'domino/dominolaw08.KeysTell' returns true whatever comes in, and its arguments read behind the call as they read before it. No conditions. -/
import Derived.Test.YtlplpmkdebemnaaDoorZKeysTell5
import Derived.Test.YtlplpmkdebemnaaDoorProg
import Derived.Test.YtlplpmkdebemnaaDoorRows
import Derived.Test.YtlplpmkdebemnaaDoorTie
import Derived.Test.YtlplpmkdebemnaaDoorCards
import Derived.SevenTiedAt
import Derived.WalkKit
import Derived.ProofKit
import Derived.OpenShut
import Derived.ShutString
import Derived.ChangeOld
import Derived.Below
namespace Go.Proofs.YtlplpmkdebemnaaDoor
set_option linter.unusedVariables false
set_option linter.unusedSimpArgs false
set_option linter.unnecessarySimpa false
set_option maxRecDepth 100000
open Go.RowKit Bv Fw

theorem inf_one (w : List (BitVec 8)) (a : BitVec 64) : w ++ lowb a 8 = w ++ eights [a] := by simp [eights]
theorem inf_two (w : List (BitVec 8)) (a b : BitVec 64) : (w ++ lowb a 8) ++ lowb b 8 = w ++ eights [a, b] := by simp [eights]
theorem inf_three (w : List (BitVec 8)) (a b c : BitVec 64) : ((w ++ lowb a 8) ++ lowb b 8) ++ lowb c 8 = w ++ eights [a, b, c] := by simp [eights]
theorem inf_nil (w : List (BitVec 8)) : w ++ eights [] = w := by simp [eights]
/-- The nonce's bytes so far. -/
def npad (a i : BitVec 64) (k : Nat) : List (BitVec 8) := (lowb a 8 ++ lowb i 4).take k ++ List.replicate (12 - k) 0#8
theorem npad_len (a i : BitVec 64) (k : Nat) (h : k ≤ 12) : (npad a i k).length = 12 := by unfold npad; simp [lowb_len]; omega
theorem npad_zero (a i : BitVec 64) : npad a i 0 = List.replicate 12 0#8 := by unfold npad; simp
theorem npad_all (a i : BitVec 64) : npad a i 12 = nonc a i := by unfold npad; rw [List.take_of_length_le (by simp [lowb_len]), nonc_def]; simp
theorem npad_set (a i : BitVec 64) (k : Nat) (h : k < 12) (v : BitVec 8) (hv : v = ath (lowb a 8 ++ lowb i 4) k) : (npad a i k).set k v = npad a i (k + 1) := by
  subst hv
  have hl : (lowb a 8 ++ lowb i 4).length = 12 := by simp [lowb_len]
  unfold npad
  rw [List.set_append_right _ _ (by simp [lowb_len]; omega), List.length_take, hl, show k - min k 12 = 0 from by omega, show 12 - k = (12 - (k + 1)) + 1 from by omega, List.replicate_succ, List.set_cons_zero, List.take_succ_eq_append_getElem (by omega), ath_get _ k (by omega), List.append_assoc]
  rfl
theorem lowb_at (v : BitVec 64) : ∀ (n k : Nat), k < n → ath (lowb v n) k = (v >>> (8 * k)).setWidth 8
  | 0, _, h => by omega
  | n + 1, k, h => by
    rw [lowb]
    by_cases hk : k = n
    · subst hk; unfold ath; rw [List.getD_eq_getElem?_getD, List.getElem?_append_right (by rw [lowb_len]; omega), lowb_len]; simp
    · have := lowb_at v n k (by omega)
      unfold ath at *
      rw [List.getD_eq_getElem?_getD, List.getElem?_append_left (by rw [lowb_len]; omega), ← List.getD_eq_getElem?_getD]; exact this
theorem np_lo (a i : BitVec 64) (k : Nat) (h : k < 8) : (a >>> (8 * k)).setWidth 8 = ath (lowb a 8 ++ lowb i 4) k := by
  rw [← lowb_at a 8 k h]; unfold ath
  rw [List.getD_eq_getElem?_getD, List.getD_eq_getElem?_getD, List.getElem?_append_left (by rw [lowb_len]; omega)]
theorem np_hi (a i : BitVec 64) (k : Nat) (h : k < 4) : (i >>> (8 * k)).setWidth 8 = ath (lowb a 8 ++ lowb i 4) (8 + k) := by
  rw [← lowb_at i 4 k h]; unfold ath
  rw [List.getD_eq_getElem?_getD, List.getD_eq_getElem?_getD, List.getElem?_append_right (by rw [lowb_len]; omega), lowb_len, show 8 + k - 8 = k by omega]

set_option maxHeartbeats 4000000 in
theorem kjob_f (job : List (BitVec 8)) (jid : BitVec 64) (w : World) (hO : HOK [] w) (hj : job.length = 32) : Calls Tryd.prog 14 [(.agg (job.map b8).toArray), (b64 jid)].toArray w (Ret (T := Unit) [] w (fun _ => True) (fun _ => (.agg ((kof job ([106#8, 111#8, 98#8] ++ eights [jid])).map b8).toArray)) (fun _ => [])) := by
 have hil : (([106#8, 111#8, 98#8] ++ eights [jid])).length = 11 := by rw [List.length_append, eights_one]; rfl
 have hkl := kof_len job ([106#8, 111#8, 98#8] ++ eights [jid])
 have hF : Wid Fence.wide := wid_wide
 refine enter (c := _) Tryd.func14 rfl [] _ [] (by rw [Tryd.ntmps14]; rfl) (own_rds hO rfl) ?_
 rw [Tryd.ntmps14]
 refine T_re [(0, (.agg (job.map b8).toArray)), (1, (b64 jid))] (sc rfl (sc rfl sn)) ?_
 refine T_he [] [] ⟨by decide, rfl⟩ ?_
 refine Tsr hF rfl ?_
 refine L_op rfl (op_box (zs := (job.map b8)) rfl rfl rfl rfl rfl (fun g1 => ?_))
 refine L_op rfl (op_alloc (z := .agg ((List.replicate 32 0#8).map b8).toArray) (zs := ((List.replicate 32 0#8).map b8)) kr rfl rfl rfl rfl (fun g2 => ?_))
 refine L_nil ?_
 refine T_seq ?_
 refine T_regD [.blk g2 34 ((List.replicate 32 0#8).map b8), .blk g1 34 (job.map b8)] 5 6 #[false, false, false, false, false, false] hF kr kr ?_
 refine D_pure (i := 0) [0, 1] rfl kr rfl (pr_sla (l := 0) (u := 32) (m := 0) sd sd sd rfl Tryd.underlying34 (z := 1) kr rfl rfl rfl rfl) (.inr rfl) rfl rfl ?_
 refine D_pure (i := 1) [0, 1] rfl kr rfl (pr_move rfl rfl) (.inr rfl) rfl rfl ?_
 refine D_one 2 _ rfl kr rfl (op_bslice (e := 22) (zs := [(b64 jid)]) (qs := [(0, (b64 jid))]) (fun _ => by kernel_rfl) rfl rfl rfl rfl (fun g3 => ?_))
 refine D_on [1, 2] rfl ?_
 refine D_one 3 _ rfl kr rfl (op_cn (fun w hw => kinfo_f [106#8, 111#8, 98#8] 3 [jid] (some ⟨g3, 0, none⟩) 1 1 w (hok_cons ((src_full (z := 1) 0 rfl rfl sd sd) w hw) (hok_nil w)) (by first | rfl | (simp; done)) sd sd sd) (enters_of Tryd.func28 kr rfl) rfl rfl kr rfl rfl (fun t4 q5 => ?_))
 obtain ⟨B6, d7⟩ := t4
 refine T_slot 8 (.slice B6 (3 + 8 * 1) d7) (.slice B6 11 d7) rfl (by congr 1) ?_
 refine T_as 0 _ (.old B6 1 11 d7 (([106#8, 111#8, 98#8] ++ eights [jid]).map b8)) rfl rfl ?_
 refine D_on [2, 3] rfl ?_
 refine D_one 4 _ rfl kr rfl (op_cn (fun w hw => key_f [] none 0 0 job (some ⟨g1, 0, none⟩) 32 32 ([106#8, 111#8, 98#8] ++ eights [jid]) B6 11 d7 w (hok_cons ((src_nil 1) w hw) (hok_cons ((src_full (z := 1) 3 rfl sd sd sd) w hw) (hok_cons ((src_old 0 rfl) w hw) (hok_nil w)))) (by first | assumption | omega | (simp; done) | (simp; omega)) sd (by first | assumption | omega | (simp; done) | (simp; omega)) sd hil sd) (enters_of Tryd.func33 kr rfl) rfl rfl rfl rfl rfl (fun t8 q9 => ?_))
 refine T_slot 9 _ (.agg ((kof job ([106#8, 111#8, 98#8] ++ eights [jid])).map b8).toArray) rfl (by rw [kof_def]) ?_
 refine D_on [2, 3] rfl ?_
 refine D_one 5 _ rfl kr rfl (op_sto (n := 32) (vs := ((kof job ([106#8, 111#8, 98#8] ++ eights [jid])).map b8)) 2 rfl rfl kr (all8_one _) kr sd rfl rfl rfl rfl ?_)
 refine D_past kr ?_
 refine D_done kr ?_
 refine T_ret ?_
 exact T_fin () (by first | trivial | omega | (simp; done)) (resb 0 rfl rfl rfl Tryd.underlying34 rfl (fwz (n := 32) kr sd)) [] ⟨by decide, rfl⟩ rfl
set_option maxHeartbeats 4000000 in
theorem kjour_f (job : List (BitVec 8)) (w : World) (hO : HOK [] w) (hj : job.length = 32) : Calls Tryd.prog 17 [(.agg (job.map b8).toArray)].toArray w (Ret (T := Unit) [] w (fun _ => True) (fun _ => (.agg ((kof job [106#8, 111#8, 117#8, 114#8, 110#8, 97#8, 108#8]).map b8).toArray)) (fun _ => [])) := by
 have hil : ([106#8, 111#8, 117#8, 114#8, 110#8, 97#8, 108#8]).length = 7 := by rfl
 have hkl := kof_len job [106#8, 111#8, 117#8, 114#8, 110#8, 97#8, 108#8]
 have hF : Wid Fence.wide := wid_wide
 refine enter (c := _) Tryd.func17 rfl [] _ [] (by rw [Tryd.ntmps17]; rfl) (own_rds hO rfl) ?_
 rw [Tryd.ntmps17]
 refine T_re [(0, (.agg (job.map b8).toArray))] (sc rfl sn) ?_
 refine T_he [] [] ⟨by decide, rfl⟩ ?_
 refine Tsr hF rfl ?_
 refine L_op rfl (op_box (zs := (job.map b8)) rfl rfl rfl rfl rfl (fun g1 => ?_))
 refine L_op rfl (op_alloc (z := .agg ((List.replicate 32 0#8).map b8).toArray) (zs := ((List.replicate 32 0#8).map b8)) kr rfl rfl rfl rfl (fun g2 => ?_))
 refine L_nil ?_
 refine T_seq ?_
 refine T_regD [.blk g2 34 ((List.replicate 32 0#8).map b8), .blk g1 34 (job.map b8)] 3 4 #[false, false, false, false] hF kr kr ?_
 refine D_pure (i := 0) [0, 1] rfl kr rfl (pr_sla (l := 0) (u := 32) (m := 0) sd sd sd rfl Tryd.underlying34 (z := 1) kr rfl rfl rfl rfl) (.inr rfl) rfl rfl ?_
 refine D_one 1 _ rfl kr rfl (op_cn (fun w hw => kinfo_f [106#8, 111#8, 117#8, 114#8, 110#8, 97#8, 108#8] 7 [] none 0 0 w (hok_cons ((src_nil 1) w hw) (hok_nil w)) (by first | rfl | (simp; done)) sd sd sd) (enters_of Tryd.func28 kr rfl) rfl rfl kr rfl rfl (fun t3 q4 => ?_))
 obtain ⟨B5, d6⟩ := t3
 refine T_slot 4 (.slice B5 (7 + 8 * 0) d6) (.slice B5 7 d6) rfl (by congr 1) ?_
 refine T_as 0 _ (.old B5 1 7 d6 (([106#8, 111#8, 117#8, 114#8, 110#8, 97#8, 108#8] ++ eights []).map b8)) rfl rfl ?_
 refine T_as 0 _ (.old B5 1 7 d6 ([106#8, 111#8, 117#8, 114#8, 110#8, 97#8, 108#8].map b8)) rfl (by rw [inf_nil]) ?_
 refine D_on [1, 2] rfl ?_
 refine D_one 2 _ rfl kr rfl (op_cn (fun w hw => key_f [] none 0 0 job (some ⟨g1, 0, none⟩) 32 32 [106#8, 111#8, 117#8, 114#8, 110#8, 97#8, 108#8] B5 7 d6 w (hok_cons ((src_nil 1) w hw) (hok_cons ((src_full (z := 1) 2 rfl sd sd sd) w hw) (hok_cons ((src_old 0 rfl) w hw) (hok_nil w)))) (by first | assumption | omega | (simp; done) | (simp; omega)) sd (by first | assumption | omega | (simp; done) | (simp; omega)) sd hil sd) (enters_of Tryd.func33 kr rfl) rfl rfl rfl rfl rfl (fun t7 q8 => ?_))
 refine T_slot 5 _ (.agg ((kof job [106#8, 111#8, 117#8, 114#8, 110#8, 97#8, 108#8]).map b8).toArray) rfl (by rw [kof_def]) ?_
 refine D_on [1, 2] rfl ?_
 refine D_one 3 _ rfl kr rfl (op_sto (n := 32) (vs := ((kof job [106#8, 111#8, 117#8, 114#8, 110#8, 97#8, 108#8]).map b8)) 1 rfl rfl kr (all8_one _) kr sd rfl rfl rfl rfl ?_)
 refine D_past kr ?_
 refine D_done kr ?_
 refine T_ret ?_
 exact T_fin () (by first | trivial | omega | (simp; done)) (resb 0 rfl rfl rfl Tryd.underlying34 rfl (fwz (n := 32) kr sd)) [] ⟨by decide, rfl⟩ rfl
set_option maxHeartbeats 4000000 in
theorem rjob_f (job : List (BitVec 8)) (jid : BitVec 64) (w : World) (hO : HOK [] w) (hj : job.length = 32) : Calls Tryd.prog 19 [(.agg (job.map b8).toArray), (b64 jid)].toArray w (Ret (T := Unit) [] w (fun _ => True) (fun _ => (.agg ((kof job ([106#8, 111#8, 98#8] ++ eights [jid])).map b8).toArray)) (fun _ => [])) := by
 have hil : (([106#8, 111#8, 98#8] ++ eights [jid])).length = 11 := by rw [List.length_append, eights_one]; rfl
 have hkl := kof_len job ([106#8, 111#8, 98#8] ++ eights [jid])
 have hF : Wid Fence.wide := wid_wide
 refine enter (c := _) Tryd.func19 rfl [] _ [] (by rw [Tryd.ntmps19]; rfl) (own_rds hO rfl) ?_
 rw [Tryd.ntmps19]
 refine T_re [(0, (.agg (job.map b8).toArray)), (1, (b64 jid))] (sc rfl (sc rfl sn)) ?_
 refine T_he [] [] ⟨by decide, rfl⟩ ?_
 refine Tsr hF rfl ?_
 refine L_op rfl (op_box (zs := (job.map b8)) rfl rfl rfl rfl rfl (fun g1 => ?_))
 refine L_op rfl (op_alloc (z := .agg ((List.replicate 32 0#8).map b8).toArray) (zs := ((List.replicate 32 0#8).map b8)) kr rfl rfl rfl rfl (fun g2 => ?_))
 refine L_nil ?_
 refine T_seq ?_
 refine T_regD [.blk g2 34 ((List.replicate 32 0#8).map b8), .blk g1 34 (job.map b8)] 5 8 #[false, false, false, false, false, false, false, false] hF kr kr ?_
 refine D_pure (i := 0) [0, 1] rfl kr rfl (pr_sla (l := 0) (u := 32) (m := 0) sd sd sd rfl Tryd.underlying34 (z := 1) kr rfl rfl rfl rfl) (.inr rfl) rfl rfl ?_
 refine D_pure (i := 3) [0, 1] rfl kr rfl (pr_move rfl rfl) (.inr rfl) rfl rfl ?_
 refine D_join (T := Unit) (fun _ => True) (fun _ => [(4, (.pointer (some ⟨g2, 0, none⟩)))]) (fun _ => [.blk g2 34 ((kof job ([106#8, 111#8, 98#8] ++ eights [jid])).map b8), .blk g1 34 (job.map b8)]) ?_ ?_
 ·
  refine D_all [1, 4] kr (by simp) ⟨⟨_, rfl, rfl, ?_⟩, ⟨_, rfl, rfl, ?_⟩, trivial⟩
  ·
   refine id (op_bslice (e := 5) (zs := [(b8 (106#8)), (b8 (111#8)), (b8 (98#8))]) (qs := [(0, (b8 (106#8))), (1, (b8 (111#8))), (2, (b8 (98#8)))]) (fun _ => by kernel_rfl) rfl rfl rfl rfl (fun g12 => ?_))
   refine D_on [1, 2] rfl ?_
   refine D_all [2, 4] kr (by simp) ⟨⟨_, rfl, rfl, ?_⟩, ⟨_, rfl, rfl, ?_⟩, trivial⟩
   ·
    refine id (op_mark (zs := [(b8 (106#8)), (b8 (111#8)), (b8 (98#8))]) 0 rfl Tryd.underlying29 Tryd.underlying5 sd sd rfl rfl rfl rfl rfl rfl ?_)
    refine D_on [1, 2] rfl ?_
    refine D_one 4 _ rfl kr rfl (op_cn (fun w hw => r8eight_f jid w (hok_nil w) ) (enters_of Tryd.func13 kr rfl) rfl rfl rfl rfl rfl (fun t13 q14 => ?_))
    obtain ⟨B15, d16⟩ := t13
    refine D_on [2, 3] rfl ?_
    refine D_one 5 _ rfl kr rfl (op_app_old (zs := [106#8, 111#8, 98#8]) (news := (lowb jid 8)) (src_old 1 rfl) sd sd Tryd.underlying29 kr (src_row 0 rfl) sd sd rfl rfl rfl rfl rfl (fun A17 C18 => ?_))
    refine T_as 0 _ (.row (.slice A17 11 C18) 5 1 11 (([106#8, 111#8, 98#8] ++ (lowb jid 8)).map b8)) rfl rfl ?_
    refine T_slot 10 (.slice A17 (3 + 8) C18) (.slice A17 11 C18) rfl rfl ?_
    refine D_past kr ?_
    refine D_one 6 _ rfl kr rfl (op_cn (fun w hw => rkey_f [] none 0 0 job (some ⟨g1, 0, none⟩) 32 32 ([106#8, 111#8, 98#8] ++ (lowb jid 8)) A17 11 C18 w (hok_cons ((src_nil 1) w hw) (hok_cons ((src_full (z := 1) 4 rfl sd sd sd) w hw) (hok_cons ((src_row 0 rfl) w hw) (hok_nil w)))) (by first | assumption | omega | (simp; done) | (simp; omega)) sd (by first | assumption | omega | (simp; done) | (simp; omega)) sd (by rw [inf_one]; exact hil) sd) (enters_of Tryd.func12 kr rfl) rfl rfl rfl rfl rfl (fun t19 q20 => ?_))
    refine T_slot 11 _ (.agg ((kof job ([106#8, 111#8, 98#8] ++ eights [jid])).map b8).toArray) rfl (by rw [inf_one, kof_def]) ?_
    refine D_past kr ?_
    refine D_one 7 _ rfl kr rfl (op_sto (n := 32) (vs := ((kof job ([106#8, 111#8, 98#8] ++ eights [jid])).map b8)) 3 rfl rfl kr (all8_one _) kr sd rfl rfl rfl rfl ?_)
    refine D_past kr ?_
    refine D_done kr ?_
    exact T_meet () trivial (sc rfl sn) [0, 4] ⟨by decide, rfl⟩
   ·
    refine id (op_cn (fun w hw => r8eight_f jid w (hok_nil w) ) (enters_of Tryd.func13 kr rfl) rfl rfl rfl rfl rfl (fun t21 q22 => ?_))
    obtain ⟨B23, d24⟩ := t21
    refine D_on [2, 3] rfl ?_
    refine D_one 2 _ rfl kr rfl (op_mark (zs := [(b8 (106#8)), (b8 (111#8)), (b8 (98#8))]) 1 rfl Tryd.underlying29 Tryd.underlying5 sd sd rfl rfl rfl rfl rfl rfl ?_)
    refine D_on [2, 3] rfl ?_
    refine D_one 5 _ rfl kr rfl (op_app_old (zs := [106#8, 111#8, 98#8]) (news := (lowb jid 8)) (src_old 0 rfl) sd sd Tryd.underlying29 kr (src_row 1 rfl) sd sd rfl rfl rfl rfl rfl (fun A25 C26 => ?_))
    refine T_as 0 _ (.row (.slice A25 11 C26) 5 1 11 (([106#8, 111#8, 98#8] ++ (lowb jid 8)).map b8)) rfl rfl ?_
    refine T_slot 10 (.slice A25 (3 + 8) C26) (.slice A25 11 C26) rfl rfl ?_
    refine D_past kr ?_
    refine D_one 6 _ rfl kr rfl (op_cn (fun w hw => rkey_f [] none 0 0 job (some ⟨g1, 0, none⟩) 32 32 ([106#8, 111#8, 98#8] ++ (lowb jid 8)) A25 11 C26 w (hok_cons ((src_nil 1) w hw) (hok_cons ((src_full (z := 1) 4 rfl sd sd sd) w hw) (hok_cons ((src_row 0 rfl) w hw) (hok_nil w)))) (by first | assumption | omega | (simp; done) | (simp; omega)) sd (by first | assumption | omega | (simp; done) | (simp; omega)) sd (by rw [inf_one]; exact hil) sd) (enters_of Tryd.func12 kr rfl) rfl rfl rfl rfl rfl (fun t27 q28 => ?_))
    refine T_slot 11 _ (.agg ((kof job ([106#8, 111#8, 98#8] ++ eights [jid])).map b8).toArray) rfl (by rw [inf_one, kof_def]) ?_
    refine D_past kr ?_
    refine D_one 7 _ rfl kr rfl (op_sto (n := 32) (vs := ((kof job ([106#8, 111#8, 98#8] ++ eights [jid])).map b8)) 3 rfl rfl kr (all8_one _) kr sd rfl rfl rfl rfl ?_)
    refine D_past kr ?_
    refine D_done kr ?_
    exact T_meet () trivial (sc rfl sn) [0, 4] ⟨by decide, rfl⟩
  ·
   refine id (op_cn (fun w hw => r8eight_f jid w (hok_nil w) ) (enters_of Tryd.func13 kr rfl) rfl rfl rfl rfl rfl (fun t29 q30 => ?_))
   obtain ⟨B31, d32⟩ := t29
   refine D_on [1, 2] rfl ?_
   refine D_one 1 _ rfl kr rfl (op_bslice (e := 5) (zs := [(b8 (106#8)), (b8 (111#8)), (b8 (98#8))]) (qs := [(0, (b8 (106#8))), (1, (b8 (111#8))), (2, (b8 (98#8)))]) (fun _ => by kernel_rfl) rfl rfl rfl rfl (fun g33 => ?_))
   refine D_on [2, 3] rfl ?_
   refine D_one 2 _ rfl kr rfl (op_mark (zs := [(b8 (106#8)), (b8 (111#8)), (b8 (98#8))]) 0 rfl Tryd.underlying29 Tryd.underlying5 sd sd rfl rfl rfl rfl rfl rfl ?_)
   refine D_on [2, 3] rfl ?_
   refine D_one 5 _ rfl kr rfl (op_app_old (zs := [106#8, 111#8, 98#8]) (news := (lowb jid 8)) (src_old 0 rfl) sd sd Tryd.underlying29 kr (src_row 1 rfl) sd sd rfl rfl rfl rfl rfl (fun A34 C35 => ?_))
   refine T_as 0 _ (.row (.slice A34 11 C35) 5 1 11 (([106#8, 111#8, 98#8] ++ (lowb jid 8)).map b8)) rfl rfl ?_
   refine T_slot 10 (.slice A34 (3 + 8) C35) (.slice A34 11 C35) rfl rfl ?_
   refine D_past kr ?_
   refine D_one 6 _ rfl kr rfl (op_cn (fun w hw => rkey_f [] none 0 0 job (some ⟨g1, 0, none⟩) 32 32 ([106#8, 111#8, 98#8] ++ (lowb jid 8)) A34 11 C35 w (hok_cons ((src_nil 1) w hw) (hok_cons ((src_full (z := 1) 4 rfl sd sd sd) w hw) (hok_cons ((src_row 0 rfl) w hw) (hok_nil w)))) (by first | assumption | omega | (simp; done) | (simp; omega)) sd (by first | assumption | omega | (simp; done) | (simp; omega)) sd (by rw [inf_one]; exact hil) sd) (enters_of Tryd.func12 kr rfl) rfl rfl rfl rfl rfl (fun t36 q37 => ?_))
   refine T_slot 11 _ (.agg ((kof job ([106#8, 111#8, 98#8] ++ eights [jid])).map b8).toArray) rfl (by rw [inf_one, kof_def]) ?_
   refine D_past kr ?_
   refine D_one 7 _ rfl kr rfl (op_sto (n := 32) (vs := ((kof job ([106#8, 111#8, 98#8] ++ eights [jid])).map b8)) 3 rfl rfl kr (all8_one _) kr sd rfl rfl rfl rfl ?_)
   refine D_past kr ?_
   refine D_done kr ?_
   exact T_meet () trivial (sc rfl sn) [0, 4] ⟨by decide, rfl⟩
 ·
  rintro ⟨⟩ -
  refine T_re [(4, (.pointer (some ⟨g2, 0, none⟩)))] (sc rfl sn) ?_
  refine T_he [0, 1] [.blk g2 34 ((kof job ([106#8, 111#8, 98#8] ++ eights [jid])).map b8), .blk g1 34 (job.map b8)] ⟨by decide, rfl⟩ ?_
  refine T_ret ?_
  exact T_fin () (by first | trivial | omega | (simp; done)) (resb 0 rfl rfl rfl Tryd.underlying34 rfl (fwz (n := 32) kr sd)) [] ⟨by decide, rfl⟩ rfl
set_option maxHeartbeats 4000000 in
theorem rplace8_f (job : List (BitVec 8)) (pp : BitVec 64) (pr : BitVec 64) (pa : BitVec 64) (pt : BitVec 64) (pi : BitVec 64) (w : World) (hO : HOK [] w) (hj : job.length = 32) : Calls Tryd.prog 20 [(.agg (job.map b8).toArray), (.agg [(.int .i64 (i64 pp)), (.int .i64 (i64 pr)), (.int .i64 (i64 pa)), (b64 pt), (.int .i64 (i64 pi))].toArray)].toArray w (Ret (T := Unit) [] w (fun _ => True) (fun _ => (.agg ((kof job ([112#8, 108#8, 97#8, 99#8, 101#8] ++ eights [pp, pr, pa])).map b8).toArray)) (fun _ => [])) := by
 have hil : (([112#8, 108#8, 97#8, 99#8, 101#8] ++ eights [pp, pr, pa])).length = 29 := by rw [List.length_append, eights_three]; rfl
 have hkl := kof_len job ([112#8, 108#8, 97#8, 99#8, 101#8] ++ eights [pp, pr, pa])
 have hF : Wid Fence.wide := wid_wide
 refine enter (c := _) Tryd.func20 rfl [] _ [] (by rw [Tryd.ntmps20]; rfl) (own_rds hO rfl) ?_
 rw [Tryd.ntmps20]
 refine T_re [(0, (.agg (job.map b8).toArray)), (1, (.agg [(.int .i64 (i64 pp)), (.int .i64 (i64 pr)), (.int .i64 (i64 pa)), (b64 pt), (.int .i64 (i64 pi))].toArray))] (sc rfl (sc rfl sn)) ?_
 refine T_he [] [] ⟨by decide, rfl⟩ ?_
 refine Tsr hF rfl ?_
 refine L_op rfl (op_box (zs := (job.map b8)) rfl rfl rfl rfl rfl (fun g1 => ?_))
 refine L_op rfl (op_box (zs := [(.int .i64 (i64 pp)), (.int .i64 (i64 pr)), (.int .i64 (i64 pa)), (b64 pt), (.int .i64 (i64 pi))]) rfl rfl rfl rfl rfl (fun g2 => ?_))
 refine L_op rfl (op_alloc (z := .agg ((List.replicate 32 0#8).map b8).toArray) (zs := ((List.replicate 32 0#8).map b8)) kr rfl rfl rfl rfl (fun g3 => ?_))
 refine L_nil ?_
 refine T_seq ?_
 refine T_regD [.blk g3 34 ((List.replicate 32 0#8).map b8), .blk g2 24 [(.int .i64 (i64 pp)), (.int .i64 (i64 pr)), (.int .i64 (i64 pa)), (b64 pt), (.int .i64 (i64 pi))], .blk g1 34 (job.map b8)] 14 17 #[false, false, false, false, false, false, false, false, false, false, false, false, false, false, false, false, false] hF kr kr ?_
 refine D_pure (i := 0) [0, 1, 2] rfl kr rfl (pr_sla (l := 0) (u := 32) (m := 0) sd sd sd rfl Tryd.underlying34 (z := 1) kr rfl rfl rfl rfl) (.inr rfl) rfl rfl ?_
 refine D_pure (i := 3) [0, 1, 2] rfl kr rfl (pr_fa (m := 0) (m' := 0) (z := 0) (by rfl) Tryd.underlying24 rfl kr rfl rfl) (.inr rfl) rfl rfl ?_
 refine D_pure (i := 6) [0, 1, 2] rfl kr rfl (pr_fa (m := 0) (m' := 1) (z := 0) (by rfl) Tryd.underlying24 rfl kr rfl rfl) (.inr rfl) rfl rfl ?_
 refine D_pure (i := 9) [0, 1, 2] rfl kr rfl (pr_fa (m := 0) (m' := 2) (z := 0) (by rfl) Tryd.underlying24 rfl kr rfl rfl) (.inr rfl) rfl rfl ?_
 refine D_take (i := 4) [0, 1, 2] rfl kr rfl (ld_blk 1 rfl rfl Tryd.underlying3 rfl rfl rfl) rfl rfl rfl ?_
 refine D_pure (i := 5) [0, 1, 2] rfl kr rfl (pr_cv (zc_i64u pp) Tryd.underlying3 Tryd.underlying22 rfl rfl) (.inr rfl) rfl rfl ?_
 refine D_take (i := 7) [0, 1, 2] rfl kr rfl (ld_blk 1 rfl rfl Tryd.underlying3 rfl rfl rfl) rfl rfl rfl ?_
 refine D_pure (i := 8) [0, 1, 2] rfl kr rfl (pr_cv (zc_i64u pr) Tryd.underlying3 Tryd.underlying22 rfl rfl) (.inr rfl) rfl rfl ?_
 refine D_take (i := 10) [0, 1, 2] rfl kr rfl (ld_blk 1 rfl rfl Tryd.underlying3 rfl rfl rfl) rfl rfl rfl ?_
 refine D_pure (i := 11) [0, 1, 2] rfl kr rfl (pr_cv (zc_i64u pa) Tryd.underlying3 Tryd.underlying22 rfl rfl) (.inr rfl) rfl rfl ?_
 refine D_join (T := Unit) (fun _ => True) (fun _ => [(4, (.pointer (some ⟨g3, 0, none⟩)))]) (fun _ => [.blk g3 34 ((kof job ([112#8, 108#8, 97#8, 99#8, 101#8] ++ eights [pp, pr, pa])).map b8), .blk g2 24 [(.int .i64 (i64 pp)), (.int .i64 (i64 pr)), (.int .i64 (i64 pa)), (b64 pt), (.int .i64 (i64 pi))], .blk g1 34 (job.map b8)]) ?_ ?_
 ·
  refine D_all [1, 12] kr (by simp) ⟨⟨_, rfl, rfl, ?_⟩, ⟨_, rfl, rfl, ?_⟩, trivial⟩
  ·
   refine id (op_bslice (e := 5) (zs := [(b8 (112#8)), (b8 (108#8)), (b8 (97#8)), (b8 (99#8)), (b8 (101#8))]) (qs := [(0, (b8 (112#8))), (1, (b8 (108#8))), (2, (b8 (97#8))), (3, (b8 (99#8))), (4, (b8 (101#8)))]) (fun _ => by kernel_rfl) rfl rfl rfl rfl (fun g14 => ?_))
   refine D_on [1, 2, 3] rfl ?_
   refine D_all [2, 12] kr (by simp) ⟨⟨_, rfl, rfl, ?_⟩, ⟨_, rfl, rfl, ?_⟩, trivial⟩
   ·
    refine id (op_mark (zs := [(b8 (112#8)), (b8 (108#8)), (b8 (97#8)), (b8 (99#8)), (b8 (101#8))]) 0 rfl Tryd.underlying29 Tryd.underlying5 sd sd rfl rfl rfl rfl rfl rfl ?_)
    refine D_on [1, 2, 3] rfl ?_
    refine D_one 12 _ rfl kr rfl (op_bslice (e := 22) (zs := [(b64 pp), (b64 pr), (b64 pa)]) (qs := [(0, (b64 pp)), (1, (b64 pr)), (2, (b64 pa))]) (fun _ => by kernel_rfl) rfl rfl rfl rfl (fun g15 => ?_))
    refine D_on [2, 3, 4] rfl ?_
    refine D_one 13 _ rfl kr rfl (op_cn (fun w hw => r8eights_f [pp, pr, pa] (some ⟨g15, 0, none⟩) 3 3 w (hok_cons ((src_full (z := 1) 0 rfl rfl sd sd) w hw) (hok_nil w)) sd sd) (enters_of Tryd.func34 kr rfl) rfl rfl rfl rfl rfl (fun t16 q17 => ?_))
    obtain ⟨B18, d19⟩ := t16
    refine T_slot 18 (.slice B18 (8 * 3) d19) (.slice B18 24 d19) rfl (by congr 1) ?_
    refine T_as 0 _ (.row (.slice B18 24 d19) 5 1 24 ((eights [pp, pr, pa]).map b8)) rfl (rfl) ?_
    refine D_on [3, 4, 5] rfl ?_
    refine D_one 14 _ rfl kr rfl (op_app_old (zs := [112#8, 108#8, 97#8, 99#8, 101#8]) (news := (eights [pp, pr, pa])) (src_old 2 rfl) sd sd Tryd.underlying29 kr (src_row 0 rfl) sd sd rfl rfl rfl rfl rfl (fun A20 C21 => ?_))
    refine T_as 0 _ (.row (.slice A20 29 C21) 5 1 29 (([112#8, 108#8, 97#8, 99#8, 101#8] ++ (eights [pp, pr, pa])).map b8)) rfl rfl ?_
    refine T_slot 19 (.slice A20 (5 + 24) C21) (.slice A20 29 C21) rfl rfl ?_
    refine D_past kr ?_
    refine D_one 15 _ rfl kr rfl (op_cn (fun w hw => rkey_f [] none 0 0 job (some ⟨g1, 0, none⟩) 32 32 ([112#8, 108#8, 97#8, 99#8, 101#8] ++ (eights [pp, pr, pa])) A20 29 C21 w (hok_cons ((src_nil 1) w hw) (hok_cons ((src_full (z := 1) 6 rfl sd sd sd) w hw) (hok_cons ((src_row 0 rfl) w hw) (hok_nil w)))) (by first | assumption | omega | (simp; done) | (simp; omega)) sd (by first | assumption | omega | (simp; done) | (simp; omega)) sd hil sd) (enters_of Tryd.func12 kr rfl) rfl rfl rfl rfl rfl (fun t22 q23 => ?_))
    refine T_slot 20 _ (.agg ((kof job ([112#8, 108#8, 97#8, 99#8, 101#8] ++ eights [pp, pr, pa])).map b8).toArray) rfl (by rw [kof_def]) ?_
    refine D_past kr ?_
    refine D_one 16 _ rfl kr rfl (op_sto (n := 32) (vs := ((kof job ([112#8, 108#8, 97#8, 99#8, 101#8] ++ eights [pp, pr, pa])).map b8)) 4 rfl rfl kr (all8_one _) kr sd rfl rfl rfl rfl ?_)
    refine D_past kr ?_
    refine D_done kr ?_
    exact T_meet () trivial (sc rfl sn) [0, 5, 6] ⟨by decide, rfl⟩
   ·
    refine id (op_bslice (e := 22) (zs := [(b64 pp), (b64 pr), (b64 pa)]) (qs := [(0, (b64 pp)), (1, (b64 pr)), (2, (b64 pa))]) (fun _ => by kernel_rfl) rfl rfl rfl rfl (fun g24 => ?_))
    refine D_on [2, 3, 4] rfl ?_
    refine D_all [2, 13] kr (by simp) ⟨⟨_, rfl, rfl, ?_⟩, ⟨_, rfl, rfl, ?_⟩, trivial⟩
    ·
     refine id (op_mark (zs := [(b8 (112#8)), (b8 (108#8)), (b8 (97#8)), (b8 (99#8)), (b8 (101#8))]) 1 rfl Tryd.underlying29 Tryd.underlying5 sd sd rfl rfl rfl rfl rfl rfl ?_)
     refine D_on [2, 3, 4] rfl ?_
     refine D_one 13 _ rfl kr rfl (op_cn (fun w hw => r8eights_f [pp, pr, pa] (some ⟨g24, 0, none⟩) 3 3 w (hok_cons ((src_full (z := 1) 1 rfl rfl sd sd) w hw) (hok_nil w)) sd sd) (enters_of Tryd.func34 kr rfl) rfl rfl rfl rfl rfl (fun t25 q26 => ?_))
     obtain ⟨B27, d28⟩ := t25
     refine T_slot 18 (.slice B27 (8 * 3) d28) (.slice B27 24 d28) rfl (by congr 1) ?_
     refine T_as 0 _ (.row (.slice B27 24 d28) 5 1 24 ((eights [pp, pr, pa]).map b8)) rfl (rfl) ?_
     refine D_on [3, 4, 5] rfl ?_
     refine D_one 14 _ rfl kr rfl (op_app_old (zs := [112#8, 108#8, 97#8, 99#8, 101#8]) (news := (eights [pp, pr, pa])) (src_old 1 rfl) sd sd Tryd.underlying29 kr (src_row 0 rfl) sd sd rfl rfl rfl rfl rfl (fun A29 C30 => ?_))
     refine T_as 0 _ (.row (.slice A29 29 C30) 5 1 29 (([112#8, 108#8, 97#8, 99#8, 101#8] ++ (eights [pp, pr, pa])).map b8)) rfl rfl ?_
     refine T_slot 19 (.slice A29 (5 + 24) C30) (.slice A29 29 C30) rfl rfl ?_
     refine D_past kr ?_
     refine D_one 15 _ rfl kr rfl (op_cn (fun w hw => rkey_f [] none 0 0 job (some ⟨g1, 0, none⟩) 32 32 ([112#8, 108#8, 97#8, 99#8, 101#8] ++ (eights [pp, pr, pa])) A29 29 C30 w (hok_cons ((src_nil 1) w hw) (hok_cons ((src_full (z := 1) 6 rfl sd sd sd) w hw) (hok_cons ((src_row 0 rfl) w hw) (hok_nil w)))) (by first | assumption | omega | (simp; done) | (simp; omega)) sd (by first | assumption | omega | (simp; done) | (simp; omega)) sd hil sd) (enters_of Tryd.func12 kr rfl) rfl rfl rfl rfl rfl (fun t31 q32 => ?_))
     refine T_slot 20 _ (.agg ((kof job ([112#8, 108#8, 97#8, 99#8, 101#8] ++ eights [pp, pr, pa])).map b8).toArray) rfl (by rw [kof_def]) ?_
     refine D_past kr ?_
     refine D_one 16 _ rfl kr rfl (op_sto (n := 32) (vs := ((kof job ([112#8, 108#8, 97#8, 99#8, 101#8] ++ eights [pp, pr, pa])).map b8)) 4 rfl rfl kr (all8_one _) kr sd rfl rfl rfl rfl ?_)
     refine D_past kr ?_
     refine D_done kr ?_
     exact T_meet () trivial (sc rfl sn) [0, 5, 6] ⟨by decide, rfl⟩
    ·
     refine id (op_cn (fun w hw => r8eights_f [pp, pr, pa] (some ⟨g24, 0, none⟩) 3 3 w (hok_cons ((src_full (z := 1) 0 rfl rfl sd sd) w hw) (hok_nil w)) sd sd) (enters_of Tryd.func34 kr rfl) rfl rfl rfl rfl rfl (fun t33 q34 => ?_))
     obtain ⟨B35, d36⟩ := t33
     refine T_slot 18 (.slice B35 (8 * 3) d36) (.slice B35 24 d36) rfl (by congr 1) ?_
     refine T_as 0 _ (.row (.slice B35 24 d36) 5 1 24 ((eights [pp, pr, pa]).map b8)) rfl (rfl) ?_
     refine D_on [3, 4, 5] rfl ?_
     refine D_one 2 _ rfl kr rfl (op_mark (zs := [(b8 (112#8)), (b8 (108#8)), (b8 (97#8)), (b8 (99#8)), (b8 (101#8))]) 2 rfl Tryd.underlying29 Tryd.underlying5 sd sd rfl rfl rfl rfl rfl rfl ?_)
     refine D_on [3, 4, 5] rfl ?_
     refine D_one 14 _ rfl kr rfl (op_app_old (zs := [112#8, 108#8, 97#8, 99#8, 101#8]) (news := (eights [pp, pr, pa])) (src_old 0 rfl) sd sd Tryd.underlying29 kr (src_row 1 rfl) sd sd rfl rfl rfl rfl rfl (fun A37 C38 => ?_))
     refine T_as 0 _ (.row (.slice A37 29 C38) 5 1 29 (([112#8, 108#8, 97#8, 99#8, 101#8] ++ (eights [pp, pr, pa])).map b8)) rfl rfl ?_
     refine T_slot 19 (.slice A37 (5 + 24) C38) (.slice A37 29 C38) rfl rfl ?_
     refine D_past kr ?_
     refine D_one 15 _ rfl kr rfl (op_cn (fun w hw => rkey_f [] none 0 0 job (some ⟨g1, 0, none⟩) 32 32 ([112#8, 108#8, 97#8, 99#8, 101#8] ++ (eights [pp, pr, pa])) A37 29 C38 w (hok_cons ((src_nil 1) w hw) (hok_cons ((src_full (z := 1) 6 rfl sd sd sd) w hw) (hok_cons ((src_row 0 rfl) w hw) (hok_nil w)))) (by first | assumption | omega | (simp; done) | (simp; omega)) sd (by first | assumption | omega | (simp; done) | (simp; omega)) sd hil sd) (enters_of Tryd.func12 kr rfl) rfl rfl rfl rfl rfl (fun t39 q40 => ?_))
     refine T_slot 20 _ (.agg ((kof job ([112#8, 108#8, 97#8, 99#8, 101#8] ++ eights [pp, pr, pa])).map b8).toArray) rfl (by rw [kof_def]) ?_
     refine D_past kr ?_
     refine D_one 16 _ rfl kr rfl (op_sto (n := 32) (vs := ((kof job ([112#8, 108#8, 97#8, 99#8, 101#8] ++ eights [pp, pr, pa])).map b8)) 4 rfl rfl kr (all8_one _) kr sd rfl rfl rfl rfl ?_)
     refine D_past kr ?_
     refine D_done kr ?_
     exact T_meet () trivial (sc rfl sn) [0, 5, 6] ⟨by decide, rfl⟩
  ·
   refine id (op_bslice (e := 22) (zs := [(b64 pp), (b64 pr), (b64 pa)]) (qs := [(0, (b64 pp)), (1, (b64 pr)), (2, (b64 pa))]) (fun _ => by kernel_rfl) rfl rfl rfl rfl (fun g41 => ?_))
   refine D_on [1, 2, 3] rfl ?_
   refine D_all [1, 13] kr (by simp) ⟨⟨_, rfl, rfl, ?_⟩, ⟨_, rfl, rfl, ?_⟩, trivial⟩
   ·
    refine id (op_bslice (e := 5) (zs := [(b8 (112#8)), (b8 (108#8)), (b8 (97#8)), (b8 (99#8)), (b8 (101#8))]) (qs := [(0, (b8 (112#8))), (1, (b8 (108#8))), (2, (b8 (97#8))), (3, (b8 (99#8))), (4, (b8 (101#8)))]) (fun _ => by kernel_rfl) rfl rfl rfl rfl (fun g42 => ?_))
    refine D_on [2, 3, 4] rfl ?_
    refine D_all [2, 13] kr (by simp) ⟨⟨_, rfl, rfl, ?_⟩, ⟨_, rfl, rfl, ?_⟩, trivial⟩
    ·
     refine id (op_mark (zs := [(b8 (112#8)), (b8 (108#8)), (b8 (97#8)), (b8 (99#8)), (b8 (101#8))]) 0 rfl Tryd.underlying29 Tryd.underlying5 sd sd rfl rfl rfl rfl rfl rfl ?_)
     refine D_on [2, 3, 4] rfl ?_
     refine D_one 13 _ rfl kr rfl (op_cn (fun w hw => r8eights_f [pp, pr, pa] (some ⟨g41, 0, none⟩) 3 3 w (hok_cons ((src_full (z := 1) 1 rfl rfl sd sd) w hw) (hok_nil w)) sd sd) (enters_of Tryd.func34 kr rfl) rfl rfl rfl rfl rfl (fun t43 q44 => ?_))
     obtain ⟨B45, d46⟩ := t43
     refine T_slot 18 (.slice B45 (8 * 3) d46) (.slice B45 24 d46) rfl (by congr 1) ?_
     refine T_as 0 _ (.row (.slice B45 24 d46) 5 1 24 ((eights [pp, pr, pa]).map b8)) rfl (rfl) ?_
     refine D_on [3, 4, 5] rfl ?_
     refine D_one 14 _ rfl kr rfl (op_app_old (zs := [112#8, 108#8, 97#8, 99#8, 101#8]) (news := (eights [pp, pr, pa])) (src_old 1 rfl) sd sd Tryd.underlying29 kr (src_row 0 rfl) sd sd rfl rfl rfl rfl rfl (fun A47 C48 => ?_))
     refine T_as 0 _ (.row (.slice A47 29 C48) 5 1 29 (([112#8, 108#8, 97#8, 99#8, 101#8] ++ (eights [pp, pr, pa])).map b8)) rfl rfl ?_
     refine T_slot 19 (.slice A47 (5 + 24) C48) (.slice A47 29 C48) rfl rfl ?_
     refine D_past kr ?_
     refine D_one 15 _ rfl kr rfl (op_cn (fun w hw => rkey_f [] none 0 0 job (some ⟨g1, 0, none⟩) 32 32 ([112#8, 108#8, 97#8, 99#8, 101#8] ++ (eights [pp, pr, pa])) A47 29 C48 w (hok_cons ((src_nil 1) w hw) (hok_cons ((src_full (z := 1) 6 rfl sd sd sd) w hw) (hok_cons ((src_row 0 rfl) w hw) (hok_nil w)))) (by first | assumption | omega | (simp; done) | (simp; omega)) sd (by first | assumption | omega | (simp; done) | (simp; omega)) sd hil sd) (enters_of Tryd.func12 kr rfl) rfl rfl rfl rfl rfl (fun t49 q50 => ?_))
     refine T_slot 20 _ (.agg ((kof job ([112#8, 108#8, 97#8, 99#8, 101#8] ++ eights [pp, pr, pa])).map b8).toArray) rfl (by rw [kof_def]) ?_
     refine D_past kr ?_
     refine D_one 16 _ rfl kr rfl (op_sto (n := 32) (vs := ((kof job ([112#8, 108#8, 97#8, 99#8, 101#8] ++ eights [pp, pr, pa])).map b8)) 4 rfl rfl kr (all8_one _) kr sd rfl rfl rfl rfl ?_)
     refine D_past kr ?_
     refine D_done kr ?_
     exact T_meet () trivial (sc rfl sn) [0, 5, 6] ⟨by decide, rfl⟩
    ·
     refine id (op_cn (fun w hw => r8eights_f [pp, pr, pa] (some ⟨g41, 0, none⟩) 3 3 w (hok_cons ((src_full (z := 1) 1 rfl rfl sd sd) w hw) (hok_nil w)) sd sd) (enters_of Tryd.func34 kr rfl) rfl rfl rfl rfl rfl (fun t51 q52 => ?_))
     obtain ⟨B53, d54⟩ := t51
     refine T_slot 18 (.slice B53 (8 * 3) d54) (.slice B53 24 d54) rfl (by congr 1) ?_
     refine T_as 0 _ (.row (.slice B53 24 d54) 5 1 24 ((eights [pp, pr, pa]).map b8)) rfl (rfl) ?_
     refine D_on [3, 4, 5] rfl ?_
     refine D_one 2 _ rfl kr rfl (op_mark (zs := [(b8 (112#8)), (b8 (108#8)), (b8 (97#8)), (b8 (99#8)), (b8 (101#8))]) 1 rfl Tryd.underlying29 Tryd.underlying5 sd sd rfl rfl rfl rfl rfl rfl ?_)
     refine D_on [3, 4, 5] rfl ?_
     refine D_one 14 _ rfl kr rfl (op_app_old (zs := [112#8, 108#8, 97#8, 99#8, 101#8]) (news := (eights [pp, pr, pa])) (src_old 0 rfl) sd sd Tryd.underlying29 kr (src_row 1 rfl) sd sd rfl rfl rfl rfl rfl (fun A55 C56 => ?_))
     refine T_as 0 _ (.row (.slice A55 29 C56) 5 1 29 (([112#8, 108#8, 97#8, 99#8, 101#8] ++ (eights [pp, pr, pa])).map b8)) rfl rfl ?_
     refine T_slot 19 (.slice A55 (5 + 24) C56) (.slice A55 29 C56) rfl rfl ?_
     refine D_past kr ?_
     refine D_one 15 _ rfl kr rfl (op_cn (fun w hw => rkey_f [] none 0 0 job (some ⟨g1, 0, none⟩) 32 32 ([112#8, 108#8, 97#8, 99#8, 101#8] ++ (eights [pp, pr, pa])) A55 29 C56 w (hok_cons ((src_nil 1) w hw) (hok_cons ((src_full (z := 1) 6 rfl sd sd sd) w hw) (hok_cons ((src_row 0 rfl) w hw) (hok_nil w)))) (by first | assumption | omega | (simp; done) | (simp; omega)) sd (by first | assumption | omega | (simp; done) | (simp; omega)) sd hil sd) (enters_of Tryd.func12 kr rfl) rfl rfl rfl rfl rfl (fun t57 q58 => ?_))
     refine T_slot 20 _ (.agg ((kof job ([112#8, 108#8, 97#8, 99#8, 101#8] ++ eights [pp, pr, pa])).map b8).toArray) rfl (by rw [kof_def]) ?_
     refine D_past kr ?_
     refine D_one 16 _ rfl kr rfl (op_sto (n := 32) (vs := ((kof job ([112#8, 108#8, 97#8, 99#8, 101#8] ++ eights [pp, pr, pa])).map b8)) 4 rfl rfl kr (all8_one _) kr sd rfl rfl rfl rfl ?_)
     refine D_past kr ?_
     refine D_done kr ?_
     exact T_meet () trivial (sc rfl sn) [0, 5, 6] ⟨by decide, rfl⟩
   ·
    refine id (op_cn (fun w hw => r8eights_f [pp, pr, pa] (some ⟨g41, 0, none⟩) 3 3 w (hok_cons ((src_full (z := 1) 0 rfl rfl sd sd) w hw) (hok_nil w)) sd sd) (enters_of Tryd.func34 kr rfl) rfl rfl rfl rfl rfl (fun t59 q60 => ?_))
    obtain ⟨B61, d62⟩ := t59
    refine T_slot 18 (.slice B61 (8 * 3) d62) (.slice B61 24 d62) rfl (by congr 1) ?_
    refine T_as 0 _ (.row (.slice B61 24 d62) 5 1 24 ((eights [pp, pr, pa]).map b8)) rfl (rfl) ?_
    refine D_on [2, 3, 4] rfl ?_
    refine D_one 1 _ rfl kr rfl (op_bslice (e := 5) (zs := [(b8 (112#8)), (b8 (108#8)), (b8 (97#8)), (b8 (99#8)), (b8 (101#8))]) (qs := [(0, (b8 (112#8))), (1, (b8 (108#8))), (2, (b8 (97#8))), (3, (b8 (99#8))), (4, (b8 (101#8)))]) (fun _ => by kernel_rfl) rfl rfl rfl rfl (fun g63 => ?_))
    refine D_on [3, 4, 5] rfl ?_
    refine D_one 2 _ rfl kr rfl (op_mark (zs := [(b8 (112#8)), (b8 (108#8)), (b8 (97#8)), (b8 (99#8)), (b8 (101#8))]) 0 rfl Tryd.underlying29 Tryd.underlying5 sd sd rfl rfl rfl rfl rfl rfl ?_)
    refine D_on [3, 4, 5] rfl ?_
    refine D_one 14 _ rfl kr rfl (op_app_old (zs := [112#8, 108#8, 97#8, 99#8, 101#8]) (news := (eights [pp, pr, pa])) (src_old 0 rfl) sd sd Tryd.underlying29 kr (src_row 1 rfl) sd sd rfl rfl rfl rfl rfl (fun A64 C65 => ?_))
    refine T_as 0 _ (.row (.slice A64 29 C65) 5 1 29 (([112#8, 108#8, 97#8, 99#8, 101#8] ++ (eights [pp, pr, pa])).map b8)) rfl rfl ?_
    refine T_slot 19 (.slice A64 (5 + 24) C65) (.slice A64 29 C65) rfl rfl ?_
    refine D_past kr ?_
    refine D_one 15 _ rfl kr rfl (op_cn (fun w hw => rkey_f [] none 0 0 job (some ⟨g1, 0, none⟩) 32 32 ([112#8, 108#8, 97#8, 99#8, 101#8] ++ (eights [pp, pr, pa])) A64 29 C65 w (hok_cons ((src_nil 1) w hw) (hok_cons ((src_full (z := 1) 6 rfl sd sd sd) w hw) (hok_cons ((src_row 0 rfl) w hw) (hok_nil w)))) (by first | assumption | omega | (simp; done) | (simp; omega)) sd (by first | assumption | omega | (simp; done) | (simp; omega)) sd hil sd) (enters_of Tryd.func12 kr rfl) rfl rfl rfl rfl rfl (fun t66 q67 => ?_))
    refine T_slot 20 _ (.agg ((kof job ([112#8, 108#8, 97#8, 99#8, 101#8] ++ eights [pp, pr, pa])).map b8).toArray) rfl (by rw [kof_def]) ?_
    refine D_past kr ?_
    refine D_one 16 _ rfl kr rfl (op_sto (n := 32) (vs := ((kof job ([112#8, 108#8, 97#8, 99#8, 101#8] ++ eights [pp, pr, pa])).map b8)) 4 rfl rfl kr (all8_one _) kr sd rfl rfl rfl rfl ?_)
    refine D_past kr ?_
    refine D_done kr ?_
    exact T_meet () trivial (sc rfl sn) [0, 5, 6] ⟨by decide, rfl⟩
 ·
  rintro ⟨⟩ -
  refine T_re [(4, (.pointer (some ⟨g3, 0, none⟩)))] (sc rfl sn) ?_
  refine T_he [0, 1, 2] [.blk g3 34 ((kof job ([112#8, 108#8, 97#8, 99#8, 101#8] ++ eights [pp, pr, pa])).map b8), .blk g2 24 [(.int .i64 (i64 pp)), (.int .i64 (i64 pr)), (.int .i64 (i64 pa)), (b64 pt), (.int .i64 (i64 pi))], .blk g1 34 (job.map b8)] ⟨by decide, rfl⟩ ?_
  refine T_ret ?_
  exact T_fin () (by first | trivial | omega | (simp; done)) (resb 0 rfl rfl rfl Tryd.underlying34 rfl (fwz (n := 32) kr sd)) [] ⟨by decide, rfl⟩ rfl
set_option maxHeartbeats 4000000 in
theorem rsender_f (job : List (BitVec 8)) (fr : BitVec 64) (start : BitVec 64) (w : World) (hO : HOK [] w) (hj : job.length = 32) : Calls Tryd.prog 21 [(.agg (job.map b8).toArray), (.int .i64 (i64 fr)), (b64 start)].toArray w (Ret (T := Unit) [] w (fun _ => True) (fun _ => (.agg ((kof job ([115#8, 101#8, 110#8, 100#8, 101#8, 114#8] ++ eights [fr, start])).map b8).toArray)) (fun _ => [])) := by
 have hil : (([115#8, 101#8, 110#8, 100#8, 101#8, 114#8] ++ eights [fr, start])).length = 22 := by rw [List.length_append, eights_two]; rfl
 have hkl := kof_len job ([115#8, 101#8, 110#8, 100#8, 101#8, 114#8] ++ eights [fr, start])
 have hF : Wid Fence.wide := wid_wide
 refine enter (c := _) Tryd.func21 rfl [] _ [] (by rw [Tryd.ntmps21]; rfl) (own_rds hO rfl) ?_
 rw [Tryd.ntmps21]
 refine T_re [(0, (.agg (job.map b8).toArray)), (1, (.int .i64 (i64 fr))), (2, (b64 start))] (sc rfl (sc rfl (sc rfl sn))) ?_
 refine T_he [] [] ⟨by decide, rfl⟩ ?_
 refine Tsr hF rfl ?_
 refine L_op rfl (op_box (zs := (job.map b8)) rfl rfl rfl rfl rfl (fun g1 => ?_))
 refine L_op rfl (op_alloc (z := .agg ((List.replicate 32 0#8).map b8).toArray) (zs := ((List.replicate 32 0#8).map b8)) kr rfl rfl rfl rfl (fun g2 => ?_))
 refine L_nil ?_
 refine T_seq ?_
 refine T_regD [.blk g2 34 ((List.replicate 32 0#8).map b8), .blk g1 34 (job.map b8)] 8 11 #[false, false, false, false, false, false, false, false, false, false, false] hF kr kr ?_
 refine D_pure (i := 0) [0, 1] rfl kr rfl (pr_sla (l := 0) (u := 32) (m := 0) sd sd sd rfl Tryd.underlying34 (z := 1) kr rfl rfl rfl rfl) (.inr rfl) rfl rfl ?_
 refine D_pure (i := 3) [0, 1] rfl kr rfl (pr_move rfl rfl) (.inr rfl) rfl rfl ?_
 refine D_pure (i := 4) [0, 1] rfl kr rfl (pr_cv (zc_i64u fr) Tryd.underlying3 Tryd.underlying22 rfl rfl) (.inr rfl) rfl rfl ?_
 refine D_pure (i := 5) [0, 1] rfl kr rfl (pr_move rfl rfl) (.inr rfl) rfl rfl ?_
 refine D_join (T := Unit) (fun _ => True) (fun _ => [(6, (.pointer (some ⟨g2, 0, none⟩)))]) (fun _ => [.blk g2 34 ((kof job ([115#8, 101#8, 110#8, 100#8, 101#8, 114#8] ++ eights [fr, start])).map b8), .blk g1 34 (job.map b8)]) ?_ ?_
 ·
  refine D_all [1, 6] kr (by simp) ⟨⟨_, rfl, rfl, ?_⟩, ⟨_, rfl, rfl, ?_⟩, trivial⟩
  ·
   refine id (op_bslice (e := 5) (zs := [(b8 (115#8)), (b8 (101#8)), (b8 (110#8)), (b8 (100#8)), (b8 (101#8)), (b8 (114#8))]) (qs := [(0, (b8 (115#8))), (1, (b8 (101#8))), (2, (b8 (110#8))), (3, (b8 (100#8))), (4, (b8 (101#8))), (5, (b8 (114#8)))]) (fun _ => by kernel_rfl) rfl rfl rfl rfl (fun g13 => ?_))
   refine D_on [1, 2] rfl ?_
   refine D_all [2, 6] kr (by simp) ⟨⟨_, rfl, rfl, ?_⟩, ⟨_, rfl, rfl, ?_⟩, trivial⟩
   ·
    refine id (op_mark (zs := [(b8 (115#8)), (b8 (101#8)), (b8 (110#8)), (b8 (100#8)), (b8 (101#8)), (b8 (114#8))]) 0 rfl Tryd.underlying29 Tryd.underlying5 sd sd rfl rfl rfl rfl rfl rfl ?_)
    refine D_on [1, 2] rfl ?_
    refine D_one 6 _ rfl kr rfl (op_bslice (e := 22) (zs := [(b64 fr), (b64 start)]) (qs := [(0, (b64 fr)), (1, (b64 start))]) (fun _ => by kernel_rfl) rfl rfl rfl rfl (fun g14 => ?_))
    refine D_on [2, 3] rfl ?_
    refine D_one 7 _ rfl kr rfl (op_cn (fun w hw => r8eights_f [fr, start] (some ⟨g14, 0, none⟩) 2 2 w (hok_cons ((src_full (z := 1) 0 rfl rfl sd sd) w hw) (hok_nil w)) sd sd) (enters_of Tryd.func34 kr rfl) rfl rfl rfl rfl rfl (fun t15 q16 => ?_))
    obtain ⟨B17, d18⟩ := t15
    refine T_slot 14 (.slice B17 (8 * 2) d18) (.slice B17 16 d18) rfl (by congr 1) ?_
    refine T_as 0 _ (.row (.slice B17 16 d18) 5 1 16 ((eights [fr, start]).map b8)) rfl (rfl) ?_
    refine D_on [3, 4] rfl ?_
    refine D_one 8 _ rfl kr rfl (op_app_old (zs := [115#8, 101#8, 110#8, 100#8, 101#8, 114#8]) (news := (eights [fr, start])) (src_old 2 rfl) sd sd Tryd.underlying29 kr (src_row 0 rfl) sd sd rfl rfl rfl rfl rfl (fun A19 C20 => ?_))
    refine T_as 0 _ (.row (.slice A19 22 C20) 5 1 22 (([115#8, 101#8, 110#8, 100#8, 101#8, 114#8] ++ (eights [fr, start])).map b8)) rfl rfl ?_
    refine T_slot 15 (.slice A19 (6 + 16) C20) (.slice A19 22 C20) rfl rfl ?_
    refine D_past kr ?_
    refine D_one 9 _ rfl kr rfl (op_cn (fun w hw => rkey_f [] none 0 0 job (some ⟨g1, 0, none⟩) 32 32 ([115#8, 101#8, 110#8, 100#8, 101#8, 114#8] ++ (eights [fr, start])) A19 22 C20 w (hok_cons ((src_nil 1) w hw) (hok_cons ((src_full (z := 1) 5 rfl sd sd sd) w hw) (hok_cons ((src_row 0 rfl) w hw) (hok_nil w)))) (by first | assumption | omega | (simp; done) | (simp; omega)) sd (by first | assumption | omega | (simp; done) | (simp; omega)) sd hil sd) (enters_of Tryd.func12 kr rfl) rfl rfl rfl rfl rfl (fun t21 q22 => ?_))
    refine T_slot 16 _ (.agg ((kof job ([115#8, 101#8, 110#8, 100#8, 101#8, 114#8] ++ eights [fr, start])).map b8).toArray) rfl (by rw [kof_def]) ?_
    refine D_past kr ?_
    refine D_one 10 _ rfl kr rfl (op_sto (n := 32) (vs := ((kof job ([115#8, 101#8, 110#8, 100#8, 101#8, 114#8] ++ eights [fr, start])).map b8)) 4 rfl rfl kr (all8_one _) kr sd rfl rfl rfl rfl ?_)
    refine D_past kr ?_
    refine D_done kr ?_
    exact T_meet () trivial (sc rfl sn) [0, 5] ⟨by decide, rfl⟩
   ·
    refine id (op_bslice (e := 22) (zs := [(b64 fr), (b64 start)]) (qs := [(0, (b64 fr)), (1, (b64 start))]) (fun _ => by kernel_rfl) rfl rfl rfl rfl (fun g23 => ?_))
    refine D_on [2, 3] rfl ?_
    refine D_all [2, 7] kr (by simp) ⟨⟨_, rfl, rfl, ?_⟩, ⟨_, rfl, rfl, ?_⟩, trivial⟩
    ·
     refine id (op_mark (zs := [(b8 (115#8)), (b8 (101#8)), (b8 (110#8)), (b8 (100#8)), (b8 (101#8)), (b8 (114#8))]) 1 rfl Tryd.underlying29 Tryd.underlying5 sd sd rfl rfl rfl rfl rfl rfl ?_)
     refine D_on [2, 3] rfl ?_
     refine D_one 7 _ rfl kr rfl (op_cn (fun w hw => r8eights_f [fr, start] (some ⟨g23, 0, none⟩) 2 2 w (hok_cons ((src_full (z := 1) 1 rfl rfl sd sd) w hw) (hok_nil w)) sd sd) (enters_of Tryd.func34 kr rfl) rfl rfl rfl rfl rfl (fun t24 q25 => ?_))
     obtain ⟨B26, d27⟩ := t24
     refine T_slot 14 (.slice B26 (8 * 2) d27) (.slice B26 16 d27) rfl (by congr 1) ?_
     refine T_as 0 _ (.row (.slice B26 16 d27) 5 1 16 ((eights [fr, start]).map b8)) rfl (rfl) ?_
     refine D_on [3, 4] rfl ?_
     refine D_one 8 _ rfl kr rfl (op_app_old (zs := [115#8, 101#8, 110#8, 100#8, 101#8, 114#8]) (news := (eights [fr, start])) (src_old 1 rfl) sd sd Tryd.underlying29 kr (src_row 0 rfl) sd sd rfl rfl rfl rfl rfl (fun A28 C29 => ?_))
     refine T_as 0 _ (.row (.slice A28 22 C29) 5 1 22 (([115#8, 101#8, 110#8, 100#8, 101#8, 114#8] ++ (eights [fr, start])).map b8)) rfl rfl ?_
     refine T_slot 15 (.slice A28 (6 + 16) C29) (.slice A28 22 C29) rfl rfl ?_
     refine D_past kr ?_
     refine D_one 9 _ rfl kr rfl (op_cn (fun w hw => rkey_f [] none 0 0 job (some ⟨g1, 0, none⟩) 32 32 ([115#8, 101#8, 110#8, 100#8, 101#8, 114#8] ++ (eights [fr, start])) A28 22 C29 w (hok_cons ((src_nil 1) w hw) (hok_cons ((src_full (z := 1) 5 rfl sd sd sd) w hw) (hok_cons ((src_row 0 rfl) w hw) (hok_nil w)))) (by first | assumption | omega | (simp; done) | (simp; omega)) sd (by first | assumption | omega | (simp; done) | (simp; omega)) sd hil sd) (enters_of Tryd.func12 kr rfl) rfl rfl rfl rfl rfl (fun t30 q31 => ?_))
     refine T_slot 16 _ (.agg ((kof job ([115#8, 101#8, 110#8, 100#8, 101#8, 114#8] ++ eights [fr, start])).map b8).toArray) rfl (by rw [kof_def]) ?_
     refine D_past kr ?_
     refine D_one 10 _ rfl kr rfl (op_sto (n := 32) (vs := ((kof job ([115#8, 101#8, 110#8, 100#8, 101#8, 114#8] ++ eights [fr, start])).map b8)) 4 rfl rfl kr (all8_one _) kr sd rfl rfl rfl rfl ?_)
     refine D_past kr ?_
     refine D_done kr ?_
     exact T_meet () trivial (sc rfl sn) [0, 5] ⟨by decide, rfl⟩
    ·
     refine id (op_cn (fun w hw => r8eights_f [fr, start] (some ⟨g23, 0, none⟩) 2 2 w (hok_cons ((src_full (z := 1) 0 rfl rfl sd sd) w hw) (hok_nil w)) sd sd) (enters_of Tryd.func34 kr rfl) rfl rfl rfl rfl rfl (fun t32 q33 => ?_))
     obtain ⟨B34, d35⟩ := t32
     refine T_slot 14 (.slice B34 (8 * 2) d35) (.slice B34 16 d35) rfl (by congr 1) ?_
     refine T_as 0 _ (.row (.slice B34 16 d35) 5 1 16 ((eights [fr, start]).map b8)) rfl (rfl) ?_
     refine D_on [3, 4] rfl ?_
     refine D_one 2 _ rfl kr rfl (op_mark (zs := [(b8 (115#8)), (b8 (101#8)), (b8 (110#8)), (b8 (100#8)), (b8 (101#8)), (b8 (114#8))]) 2 rfl Tryd.underlying29 Tryd.underlying5 sd sd rfl rfl rfl rfl rfl rfl ?_)
     refine D_on [3, 4] rfl ?_
     refine D_one 8 _ rfl kr rfl (op_app_old (zs := [115#8, 101#8, 110#8, 100#8, 101#8, 114#8]) (news := (eights [fr, start])) (src_old 0 rfl) sd sd Tryd.underlying29 kr (src_row 1 rfl) sd sd rfl rfl rfl rfl rfl (fun A36 C37 => ?_))
     refine T_as 0 _ (.row (.slice A36 22 C37) 5 1 22 (([115#8, 101#8, 110#8, 100#8, 101#8, 114#8] ++ (eights [fr, start])).map b8)) rfl rfl ?_
     refine T_slot 15 (.slice A36 (6 + 16) C37) (.slice A36 22 C37) rfl rfl ?_
     refine D_past kr ?_
     refine D_one 9 _ rfl kr rfl (op_cn (fun w hw => rkey_f [] none 0 0 job (some ⟨g1, 0, none⟩) 32 32 ([115#8, 101#8, 110#8, 100#8, 101#8, 114#8] ++ (eights [fr, start])) A36 22 C37 w (hok_cons ((src_nil 1) w hw) (hok_cons ((src_full (z := 1) 5 rfl sd sd sd) w hw) (hok_cons ((src_row 0 rfl) w hw) (hok_nil w)))) (by first | assumption | omega | (simp; done) | (simp; omega)) sd (by first | assumption | omega | (simp; done) | (simp; omega)) sd hil sd) (enters_of Tryd.func12 kr rfl) rfl rfl rfl rfl rfl (fun t38 q39 => ?_))
     refine T_slot 16 _ (.agg ((kof job ([115#8, 101#8, 110#8, 100#8, 101#8, 114#8] ++ eights [fr, start])).map b8).toArray) rfl (by rw [kof_def]) ?_
     refine D_past kr ?_
     refine D_one 10 _ rfl kr rfl (op_sto (n := 32) (vs := ((kof job ([115#8, 101#8, 110#8, 100#8, 101#8, 114#8] ++ eights [fr, start])).map b8)) 4 rfl rfl kr (all8_one _) kr sd rfl rfl rfl rfl ?_)
     refine D_past kr ?_
     refine D_done kr ?_
     exact T_meet () trivial (sc rfl sn) [0, 5] ⟨by decide, rfl⟩
  ·
   refine id (op_bslice (e := 22) (zs := [(b64 fr), (b64 start)]) (qs := [(0, (b64 fr)), (1, (b64 start))]) (fun _ => by kernel_rfl) rfl rfl rfl rfl (fun g40 => ?_))
   refine D_on [1, 2] rfl ?_
   refine D_all [1, 7] kr (by simp) ⟨⟨_, rfl, rfl, ?_⟩, ⟨_, rfl, rfl, ?_⟩, trivial⟩
   ·
    refine id (op_bslice (e := 5) (zs := [(b8 (115#8)), (b8 (101#8)), (b8 (110#8)), (b8 (100#8)), (b8 (101#8)), (b8 (114#8))]) (qs := [(0, (b8 (115#8))), (1, (b8 (101#8))), (2, (b8 (110#8))), (3, (b8 (100#8))), (4, (b8 (101#8))), (5, (b8 (114#8)))]) (fun _ => by kernel_rfl) rfl rfl rfl rfl (fun g41 => ?_))
    refine D_on [2, 3] rfl ?_
    refine D_all [2, 7] kr (by simp) ⟨⟨_, rfl, rfl, ?_⟩, ⟨_, rfl, rfl, ?_⟩, trivial⟩
    ·
     refine id (op_mark (zs := [(b8 (115#8)), (b8 (101#8)), (b8 (110#8)), (b8 (100#8)), (b8 (101#8)), (b8 (114#8))]) 0 rfl Tryd.underlying29 Tryd.underlying5 sd sd rfl rfl rfl rfl rfl rfl ?_)
     refine D_on [2, 3] rfl ?_
     refine D_one 7 _ rfl kr rfl (op_cn (fun w hw => r8eights_f [fr, start] (some ⟨g40, 0, none⟩) 2 2 w (hok_cons ((src_full (z := 1) 1 rfl rfl sd sd) w hw) (hok_nil w)) sd sd) (enters_of Tryd.func34 kr rfl) rfl rfl rfl rfl rfl (fun t42 q43 => ?_))
     obtain ⟨B44, d45⟩ := t42
     refine T_slot 14 (.slice B44 (8 * 2) d45) (.slice B44 16 d45) rfl (by congr 1) ?_
     refine T_as 0 _ (.row (.slice B44 16 d45) 5 1 16 ((eights [fr, start]).map b8)) rfl (rfl) ?_
     refine D_on [3, 4] rfl ?_
     refine D_one 8 _ rfl kr rfl (op_app_old (zs := [115#8, 101#8, 110#8, 100#8, 101#8, 114#8]) (news := (eights [fr, start])) (src_old 1 rfl) sd sd Tryd.underlying29 kr (src_row 0 rfl) sd sd rfl rfl rfl rfl rfl (fun A46 C47 => ?_))
     refine T_as 0 _ (.row (.slice A46 22 C47) 5 1 22 (([115#8, 101#8, 110#8, 100#8, 101#8, 114#8] ++ (eights [fr, start])).map b8)) rfl rfl ?_
     refine T_slot 15 (.slice A46 (6 + 16) C47) (.slice A46 22 C47) rfl rfl ?_
     refine D_past kr ?_
     refine D_one 9 _ rfl kr rfl (op_cn (fun w hw => rkey_f [] none 0 0 job (some ⟨g1, 0, none⟩) 32 32 ([115#8, 101#8, 110#8, 100#8, 101#8, 114#8] ++ (eights [fr, start])) A46 22 C47 w (hok_cons ((src_nil 1) w hw) (hok_cons ((src_full (z := 1) 5 rfl sd sd sd) w hw) (hok_cons ((src_row 0 rfl) w hw) (hok_nil w)))) (by first | assumption | omega | (simp; done) | (simp; omega)) sd (by first | assumption | omega | (simp; done) | (simp; omega)) sd hil sd) (enters_of Tryd.func12 kr rfl) rfl rfl rfl rfl rfl (fun t48 q49 => ?_))
     refine T_slot 16 _ (.agg ((kof job ([115#8, 101#8, 110#8, 100#8, 101#8, 114#8] ++ eights [fr, start])).map b8).toArray) rfl (by rw [kof_def]) ?_
     refine D_past kr ?_
     refine D_one 10 _ rfl kr rfl (op_sto (n := 32) (vs := ((kof job ([115#8, 101#8, 110#8, 100#8, 101#8, 114#8] ++ eights [fr, start])).map b8)) 4 rfl rfl kr (all8_one _) kr sd rfl rfl rfl rfl ?_)
     refine D_past kr ?_
     refine D_done kr ?_
     exact T_meet () trivial (sc rfl sn) [0, 5] ⟨by decide, rfl⟩
    ·
     refine id (op_cn (fun w hw => r8eights_f [fr, start] (some ⟨g40, 0, none⟩) 2 2 w (hok_cons ((src_full (z := 1) 1 rfl rfl sd sd) w hw) (hok_nil w)) sd sd) (enters_of Tryd.func34 kr rfl) rfl rfl rfl rfl rfl (fun t50 q51 => ?_))
     obtain ⟨B52, d53⟩ := t50
     refine T_slot 14 (.slice B52 (8 * 2) d53) (.slice B52 16 d53) rfl (by congr 1) ?_
     refine T_as 0 _ (.row (.slice B52 16 d53) 5 1 16 ((eights [fr, start]).map b8)) rfl (rfl) ?_
     refine D_on [3, 4] rfl ?_
     refine D_one 2 _ rfl kr rfl (op_mark (zs := [(b8 (115#8)), (b8 (101#8)), (b8 (110#8)), (b8 (100#8)), (b8 (101#8)), (b8 (114#8))]) 1 rfl Tryd.underlying29 Tryd.underlying5 sd sd rfl rfl rfl rfl rfl rfl ?_)
     refine D_on [3, 4] rfl ?_
     refine D_one 8 _ rfl kr rfl (op_app_old (zs := [115#8, 101#8, 110#8, 100#8, 101#8, 114#8]) (news := (eights [fr, start])) (src_old 0 rfl) sd sd Tryd.underlying29 kr (src_row 1 rfl) sd sd rfl rfl rfl rfl rfl (fun A54 C55 => ?_))
     refine T_as 0 _ (.row (.slice A54 22 C55) 5 1 22 (([115#8, 101#8, 110#8, 100#8, 101#8, 114#8] ++ (eights [fr, start])).map b8)) rfl rfl ?_
     refine T_slot 15 (.slice A54 (6 + 16) C55) (.slice A54 22 C55) rfl rfl ?_
     refine D_past kr ?_
     refine D_one 9 _ rfl kr rfl (op_cn (fun w hw => rkey_f [] none 0 0 job (some ⟨g1, 0, none⟩) 32 32 ([115#8, 101#8, 110#8, 100#8, 101#8, 114#8] ++ (eights [fr, start])) A54 22 C55 w (hok_cons ((src_nil 1) w hw) (hok_cons ((src_full (z := 1) 5 rfl sd sd sd) w hw) (hok_cons ((src_row 0 rfl) w hw) (hok_nil w)))) (by first | assumption | omega | (simp; done) | (simp; omega)) sd (by first | assumption | omega | (simp; done) | (simp; omega)) sd hil sd) (enters_of Tryd.func12 kr rfl) rfl rfl rfl rfl rfl (fun t56 q57 => ?_))
     refine T_slot 16 _ (.agg ((kof job ([115#8, 101#8, 110#8, 100#8, 101#8, 114#8] ++ eights [fr, start])).map b8).toArray) rfl (by rw [kof_def]) ?_
     refine D_past kr ?_
     refine D_one 10 _ rfl kr rfl (op_sto (n := 32) (vs := ((kof job ([115#8, 101#8, 110#8, 100#8, 101#8, 114#8] ++ eights [fr, start])).map b8)) 4 rfl rfl kr (all8_one _) kr sd rfl rfl rfl rfl ?_)
     refine D_past kr ?_
     refine D_done kr ?_
     exact T_meet () trivial (sc rfl sn) [0, 5] ⟨by decide, rfl⟩
   ·
    refine id (op_cn (fun w hw => r8eights_f [fr, start] (some ⟨g40, 0, none⟩) 2 2 w (hok_cons ((src_full (z := 1) 0 rfl rfl sd sd) w hw) (hok_nil w)) sd sd) (enters_of Tryd.func34 kr rfl) rfl rfl rfl rfl rfl (fun t58 q59 => ?_))
    obtain ⟨B60, d61⟩ := t58
    refine T_slot 14 (.slice B60 (8 * 2) d61) (.slice B60 16 d61) rfl (by congr 1) ?_
    refine T_as 0 _ (.row (.slice B60 16 d61) 5 1 16 ((eights [fr, start]).map b8)) rfl (rfl) ?_
    refine D_on [2, 3] rfl ?_
    refine D_one 1 _ rfl kr rfl (op_bslice (e := 5) (zs := [(b8 (115#8)), (b8 (101#8)), (b8 (110#8)), (b8 (100#8)), (b8 (101#8)), (b8 (114#8))]) (qs := [(0, (b8 (115#8))), (1, (b8 (101#8))), (2, (b8 (110#8))), (3, (b8 (100#8))), (4, (b8 (101#8))), (5, (b8 (114#8)))]) (fun _ => by kernel_rfl) rfl rfl rfl rfl (fun g62 => ?_))
    refine D_on [3, 4] rfl ?_
    refine D_one 2 _ rfl kr rfl (op_mark (zs := [(b8 (115#8)), (b8 (101#8)), (b8 (110#8)), (b8 (100#8)), (b8 (101#8)), (b8 (114#8))]) 0 rfl Tryd.underlying29 Tryd.underlying5 sd sd rfl rfl rfl rfl rfl rfl ?_)
    refine D_on [3, 4] rfl ?_
    refine D_one 8 _ rfl kr rfl (op_app_old (zs := [115#8, 101#8, 110#8, 100#8, 101#8, 114#8]) (news := (eights [fr, start])) (src_old 0 rfl) sd sd Tryd.underlying29 kr (src_row 1 rfl) sd sd rfl rfl rfl rfl rfl (fun A63 C64 => ?_))
    refine T_as 0 _ (.row (.slice A63 22 C64) 5 1 22 (([115#8, 101#8, 110#8, 100#8, 101#8, 114#8] ++ (eights [fr, start])).map b8)) rfl rfl ?_
    refine T_slot 15 (.slice A63 (6 + 16) C64) (.slice A63 22 C64) rfl rfl ?_
    refine D_past kr ?_
    refine D_one 9 _ rfl kr rfl (op_cn (fun w hw => rkey_f [] none 0 0 job (some ⟨g1, 0, none⟩) 32 32 ([115#8, 101#8, 110#8, 100#8, 101#8, 114#8] ++ (eights [fr, start])) A63 22 C64 w (hok_cons ((src_nil 1) w hw) (hok_cons ((src_full (z := 1) 5 rfl sd sd sd) w hw) (hok_cons ((src_row 0 rfl) w hw) (hok_nil w)))) (by first | assumption | omega | (simp; done) | (simp; omega)) sd (by first | assumption | omega | (simp; done) | (simp; omega)) sd hil sd) (enters_of Tryd.func12 kr rfl) rfl rfl rfl rfl rfl (fun t65 q66 => ?_))
    refine T_slot 16 _ (.agg ((kof job ([115#8, 101#8, 110#8, 100#8, 101#8, 114#8] ++ eights [fr, start])).map b8).toArray) rfl (by rw [kof_def]) ?_
    refine D_past kr ?_
    refine D_one 10 _ rfl kr rfl (op_sto (n := 32) (vs := ((kof job ([115#8, 101#8, 110#8, 100#8, 101#8, 114#8] ++ eights [fr, start])).map b8)) 4 rfl rfl kr (all8_one _) kr sd rfl rfl rfl rfl ?_)
    refine D_past kr ?_
    refine D_done kr ?_
    exact T_meet () trivial (sc rfl sn) [0, 5] ⟨by decide, rfl⟩
 ·
  rintro ⟨⟩ -
  refine T_re [(6, (.pointer (some ⟨g2, 0, none⟩)))] (sc rfl sn) ?_
  refine T_he [0, 1] [.blk g2 34 ((kof job ([115#8, 101#8, 110#8, 100#8, 101#8, 114#8] ++ eights [fr, start])).map b8), .blk g1 34 (job.map b8)] ⟨by decide, rfl⟩ ?_
  refine T_ret ?_
  exact T_fin () (by first | trivial | omega | (simp; done)) (resb 0 rfl rfl rfl Tryd.underlying34 rfl (fwz (n := 32) kr sd)) [] ⟨by decide, rfl⟩ rfl
set_option maxHeartbeats 4000000 in
theorem rjour_f (job : List (BitVec 8)) (w : World) (hO : HOK [] w) (hj : job.length = 32) : Calls Tryd.prog 22 [(.agg (job.map b8).toArray)].toArray w (Ret (T := Unit) [] w (fun _ => True) (fun _ => (.agg ((kof job [106#8, 111#8, 117#8, 114#8, 110#8, 97#8, 108#8]).map b8).toArray)) (fun _ => [])) := by
 have hil : ([106#8, 111#8, 117#8, 114#8, 110#8, 97#8, 108#8]).length = 7 := by rfl
 have hkl := kof_len job [106#8, 111#8, 117#8, 114#8, 110#8, 97#8, 108#8]
 have hF : Wid Fence.wide := wid_wide
 refine enter (c := _) Tryd.func22 rfl [] _ [] (by rw [Tryd.ntmps22]; rfl) (own_rds hO rfl) ?_
 rw [Tryd.ntmps22]
 refine T_re [(0, (.agg (job.map b8).toArray))] (sc rfl sn) ?_
 refine T_he [] [] ⟨by decide, rfl⟩ ?_
 refine Tsr hF rfl ?_
 refine L_op rfl (op_box (zs := (job.map b8)) rfl rfl rfl rfl rfl (fun g1 => ?_))
 refine L_op rfl (op_alloc (z := .agg ((List.replicate 32 0#8).map b8).toArray) (zs := ((List.replicate 32 0#8).map b8)) kr rfl rfl rfl rfl (fun g2 => ?_))
 refine L_nil ?_
 refine Tsr hF rfl ?_
 refine lo rfl (pr_sla (l := 0) (u := 32) (m := 0) sd sd sd rfl Tryd.underlying34 (z := 1) kr rfl rfl rfl rfl) rfl rfl ?_
 refine L_op rfl (op_bslice (e := 5) (zs := [(b8 (106#8)), (b8 (111#8)), (b8 (117#8)), (b8 (114#8)), (b8 (110#8)), (b8 (97#8)), (b8 (108#8))]) (qs := [(0, (b8 (106#8))), (1, (b8 (111#8))), (2, (b8 (117#8))), (3, (b8 (114#8))), (4, (b8 (110#8))), (5, (b8 (97#8))), (6, (b8 (108#8)))]) (fun _ => by kernel_rfl) rfl rfl rfl rfl (fun g3 => ?_))
 refine L_op rfl (op_mark (zs := [(b8 (106#8)), (b8 (111#8)), (b8 (117#8)), (b8 (114#8)), (b8 (110#8)), (b8 (97#8)), (b8 (108#8))]) 0 rfl Tryd.underlying29 Tryd.underlying5 sd sd rfl rfl rfl rfl rfl rfl ?_)
 refine L_op rfl (op_cn (fun w hw => rkey_f [] none 0 0 job (some ⟨g1, 0, none⟩) 32 32 [106#8, 111#8, 117#8, 114#8, 110#8, 97#8, 108#8] (some ⟨g3, 0, none⟩) 7 7 w (hok_cons ((src_nil 1) w hw) (hok_cons ((src_full (z := 1) 2 rfl sd sd sd) w hw) (hok_cons ((src_old 0 rfl) w hw) (hok_nil w)))) (by first | assumption | omega | (simp; done) | (simp; omega)) sd (by first | assumption | omega | (simp; done) | (simp; omega)) sd hil sd) (enters_of Tryd.func12 kr rfl) rfl rfl rfl rfl rfl (fun t4 q5 => ?_))
 refine T_slot 6 _ (.agg ((kof job [106#8, 111#8, 117#8, 114#8, 110#8, 97#8, 108#8]).map b8).toArray) rfl (by rw [kof_def]) ?_
 refine L_op rfl (op_sto (n := 32) (vs := ((kof job [106#8, 111#8, 117#8, 114#8, 110#8, 97#8, 108#8]).map b8)) 1 rfl rfl kr (all8_one _) kr sd rfl rfl rfl rfl ?_)
 refine L_nil ?_
 refine T_ret ?_
 exact T_fin () (by first | trivial | omega | (simp; done)) (resb 0 rfl rfl rfl Tryd.underlying34 rfl (fwz (n := 32) kr sd)) [] ⟨by decide, rfl⟩ rfl
set_option maxHeartbeats 4000000 in
theorem rnonce_f (a : BitVec 64) (i : BitVec 64) (w : World) (hO : HOK [] w)  : Calls Tryd.prog 18 [(b64 a), (.int .i64 (i64 i))].toArray w (Ret (T := Unit) [] w (fun _ => True) (fun _ => (.agg ((nonc a i).map b8).toArray)) (fun _ => [])) := by
 have hnl := nonc_len a i
 have hF : Wid Fence.wide := wid_wide
 refine enter (c := _) Tryd.func18 rfl [] _ [] (by rw [Tryd.ntmps18]; rfl) (own_rds hO rfl) ?_
 rw [Tryd.ntmps18]
 refine T_re [(0, (b64 a)), (1, (.int .i64 (i64 i)))] (sc rfl (sc rfl sn)) ?_
 refine T_he [] [] ⟨by decide, rfl⟩ ?_
 refine Tsr hF rfl ?_
 refine L_op rfl (op_alloc (z := .agg ((List.replicate 12 0#8).map b8).toArray) (zs := ((List.replicate 12 0#8).map b8)) kr rfl rfl rfl rfl (fun g1 => ?_))
 refine L_nil ?_
 refine Tsr hF rfl ?_
 refine L_op rfl (op_alloc (z := .agg ((List.replicate 12 0#8).map b8).toArray) (zs := ((List.replicate 12 0#8).map b8)) kr rfl rfl rfl rfl (fun g2 => ?_))
 refine L_nil ?_
 refine T_seq ?_
 refine Tsr hF rfl ?_
 refine la rfl rfl rfl rfl rfl ?_
 refine L_nil ?_
 refine T_block ?_
 refine T_as 0 _ (.blk g2 31 ((npad a i 0).map b8)) rfl (by rw [← npad_zero a i]) ?_
 refine T_loop (T := Nat) (fun k => k ≤ 8) (fun k => [(0, (b64 a)), (1, (.int .i64 (i64 i))), (4, (.pointer (some ⟨g1, 0, none⟩))), (5, (.pointer (some ⟨g2, 0, none⟩))), (6, (.int .i64 ((k : Nat) : Int)))]) (fun k => [.blk g2 31 ((npad a i k).map b8), .blk g1 31 ((List.replicate 12 0#8).map b8)]) (fun k => 8 - k) 0 (by first | trivial | ((try dsimp only); first | omega | (refine ⟨?_, ?_⟩ <;> omega) | (refine ⟨?_, ?_, ?_⟩ <;> omega) | (simp; done) | (simp; omega))) (sc rfl (sc rfl (sc rfl (sc rfl (sc rfl sn))))) [0, 1] ⟨by decide, rfl⟩ ?_
 rintro k hp
 have hp : k ≤ 8 := hp
 have hpl := npad_len a i k (by omega)
 refine T_re [(0, (b64 a)), (1, (.int .i64 (i64 i))), (4, (.pointer (some ⟨g1, 0, none⟩))), (5, (.pointer (some ⟨g2, 0, none⟩))), (6, (.int .i64 ((k : Nat) : Int)))] (sc rfl (sc rfl (sc rfl (sc rfl (sc rfl sn))))) ?_
 refine T_he [0, 1] [.blk g2 31 ((npad a i k).map b8), .blk g1 31 ((List.replicate 12 0#8).map b8)] ⟨by decide, rfl⟩ ?_
 refine T_seq ?_
 refine Tsr hF rfl ?_
 refine lm rfl rfl rfl rfl rfl ?_
 refine lo rfl (pr_cmp (bo := .lss) (nc_lt (a := k) (b := 8)) rfl rfl rfl rfl) rfl rfl ?_
 refine L_nil ?_
 refine T_cond (decide (k < 8)) rfl (fun hc_3 => ?_) (fun hc_3 => ?_)
 ·
  have hc_3 := of_decide_eq_true hc_3
  refine T_skip ?_
  refine T_seq ?_
  refine T_block ?_
  refine T_reg hF rfl ?_
  refine lm rfl rfl rfl rfl rfl ?_
  refine lm rfl rfl rfl rfl rfl ?_
  refine lm rfl rfl rfl rfl rfl ?_
  refine lo rfl (pr_mul (nm_i64 (a := 8) (b := k) sd) rfl rfl rfl) rfl rfl ?_
  refine lo rfl (pr_cv (ni_u64 (a := 8 * k) sd) Tryd.underlying3 Tryd.underlying57 rfl rfl) rfl rfl ?_
  refine lo rfl (pr_shift (sh_shr64 a _ (8 * k)) rfl rfl rfl rfl) rfl rfl ?_
  refine lo rfl (pr_cv (cv64_8 _) Tryd.underlying22 Tryd.underlying5 rfl rfl) rfl rfl ?_
  refine lo rfl (pr_ixa (j := k) (m' := k) sd (by omega) Tryd.underlying31 (z := 1) kr rfl rfl rfl) rfl rfl ?_
  refine L_op rfl (op_store (vs := [(b8 ((a >>> (8 * k)).setWidth 8))]) (cs' := ((List.set (npad a i k) k ((a >>> (8 * k)).setWidth 8)).map b8)) 0 rfl rfl kr (one_one rfl) (stl sd) (splice_map (f := b8) sd) rfl rfl rfl rfl ?_)
  refine L_nil ?_
  refine T_reg hF rfl ?_
  refine lm rfl rfl rfl rfl rfl ?_
  refine lo rfl (pr_add (na_i64 (a := k) (b := 1) sd) rfl rfl rfl) rfl rfl ?_
  refine la rfl rfl rfl rfl rfl ?_
  refine L_nil ?_
  refine T_as 0 _ (.blk g2 31 ((npad a i (k + 1)).map b8)) rfl (by rw [npad_set a i k (by omega) _ (np_lo a i k (by omega))]) ?_
  exact T_again (k + 1) (by first | trivial | ((try dsimp only); first | omega | (refine ⟨?_, ?_⟩ <;> omega) | (refine ⟨?_, ?_, ?_⟩ <;> omega) | (simp; done) | (simp; omega))) (by first | trivial | ((try dsimp only); first | omega | (refine ⟨?_, ?_⟩ <;> omega) | (refine ⟨?_, ?_, ?_⟩ <;> omega) | (simp; done) | (simp; omega))) (sc rfl (sc rfl (sc rfl (sc rfl (sc rfl sn))))) [0, 1] ⟨by decide, rfl⟩
 ·
  have hc_3 := of_decide_eq_false hc_3
  refine T_exit rfl ?_
  obtain rfl : 8 = k := by omega
  refine T_seq ?_
  refine Tsr hF rfl ?_
  refine la rfl rfl rfl rfl rfl ?_
  refine L_nil ?_
  refine T_block ?_
  refine T_as 0 _ (.blk g2 31 ((npad a i (8 + 0)).map b8)) rfl (by rfl) ?_
  refine T_loop (T := Nat) (fun k => k ≤ 4) (fun k => [(1, (.int .i64 (i64 i))), (4, (.pointer (some ⟨g1, 0, none⟩))), (5, (.pointer (some ⟨g2, 0, none⟩))), (7, (.int .i64 ((k : Nat) : Int)))]) (fun k => [.blk g2 31 ((npad a i (8 + k)).map b8), .blk g1 31 ((List.replicate 12 0#8).map b8)]) (fun k => 4 - k) 0 (by first | trivial | ((try dsimp only); first | omega | (refine ⟨?_, ?_⟩ <;> omega) | (refine ⟨?_, ?_, ?_⟩ <;> omega) | (simp; done) | (simp; omega))) (sc rfl (sc rfl (sc rfl (sc rfl sn)))) [0, 1] ⟨by decide, rfl⟩ ?_
  rintro k hp
  have hp : k ≤ 4 := hp
  have hpl := npad_len a i (8 + k) (by omega)
  refine T_re [(1, (.int .i64 (i64 i))), (4, (.pointer (some ⟨g1, 0, none⟩))), (5, (.pointer (some ⟨g2, 0, none⟩))), (7, (.int .i64 ((k : Nat) : Int)))] (sc rfl (sc rfl (sc rfl (sc rfl sn)))) ?_
  refine T_he [0, 1] [.blk g2 31 ((npad a i (8 + k)).map b8), .blk g1 31 ((List.replicate 12 0#8).map b8)] ⟨by decide, rfl⟩ ?_
  refine T_seq ?_
  refine Tsr hF rfl ?_
  refine lm rfl rfl rfl rfl rfl ?_
  refine lo rfl (pr_cmp (bo := .lss) (nc_lt (a := k) (b := 4)) rfl rfl rfl rfl) rfl rfl ?_
  refine L_nil ?_
  refine T_cond (decide (k < 4)) rfl (fun hc_4 => ?_) (fun hc_4 => ?_)
  ·
   have hc_4 := of_decide_eq_true hc_4
   refine T_skip ?_
   refine T_seq ?_
   refine T_block ?_
   refine T_reg hF rfl ?_
   refine lm rfl rfl rfl rfl rfl ?_
   refine lo rfl (pr_add (na_i64 (a := 8) (b := k) sd) rfl rfl rfl) rfl rfl ?_
   refine lm rfl rfl rfl rfl rfl ?_
   refine lo rfl (pr_cv (zc_i64u i) Tryd.underlying3 Tryd.underlying22 rfl rfl) rfl rfl ?_
   refine lm rfl rfl rfl rfl rfl ?_
   refine lo rfl (pr_mul (nm_i64 (a := 8) (b := k) sd) rfl rfl rfl) rfl rfl ?_
   refine lo rfl (pr_cv (ni_u64 (a := 8 * k) sd) Tryd.underlying3 Tryd.underlying57 rfl rfl) rfl rfl ?_
   refine lo rfl (pr_shift (sh_shr64 i _ (8 * k)) rfl rfl rfl rfl) rfl rfl ?_
   refine lo rfl (pr_cv (cv64_8 _) Tryd.underlying22 Tryd.underlying5 rfl rfl) rfl rfl ?_
   refine lo rfl (pr_ixa (j := 8 + k) (m' := 8 + k) sd (by omega) Tryd.underlying31 (z := 1) kr rfl rfl rfl) rfl rfl ?_
   refine L_op rfl (op_store (vs := [(b8 ((i >>> (8 * k)).setWidth 8))]) (cs' := ((List.set (npad a i (8 + k)) (8 + k) ((i >>> (8 * k)).setWidth 8)).map b8)) 0 rfl rfl kr (one_one rfl) (stl sd) (splice_map (f := b8) sd) rfl rfl rfl rfl ?_)
   refine L_nil ?_
   refine T_reg hF rfl ?_
   refine lm rfl rfl rfl rfl rfl ?_
   refine lo rfl (pr_add (na_i64 (a := k) (b := 1) sd) rfl rfl rfl) rfl rfl ?_
   refine la rfl rfl rfl rfl rfl ?_
   refine L_nil ?_
   refine T_as 0 _ (.blk g2 31 ((npad a i (8 + (k + 1))).map b8)) rfl (by rw [npad_set a i (8 + k) (by omega) _ (np_hi a i k (by omega))]; rfl) ?_
   exact T_again (k + 1) (by first | trivial | ((try dsimp only); first | omega | (refine ⟨?_, ?_⟩ <;> omega) | (refine ⟨?_, ?_, ?_⟩ <;> omega) | (simp; done) | (simp; omega))) (by first | trivial | ((try dsimp only); first | omega | (refine ⟨?_, ?_⟩ <;> omega) | (refine ⟨?_, ?_, ?_⟩ <;> omega) | (simp; done) | (simp; omega))) (sc rfl (sc rfl (sc rfl (sc rfl sn)))) [0, 1] ⟨by decide, rfl⟩
  ·
   have hc_4 := of_decide_eq_false hc_4
   refine T_exit rfl ?_
   obtain rfl : 4 = k := by omega
   refine Tsr hF rfl ?_
   refine lq rfl (ld_agg (ds := ((npad a i (8 + 4)).map b8)) 0 rfl agg_all Tryd.underlying31 rfl (fwz (n := 12) kr sd) rfl rfl) rfl rfl ?_
   refine L_op rfl (op_sto (n := 12) (vs := ((npad a i (8 + 4)).map b8)) 1 rfl rfl kr (all8_one _) kr sd rfl rfl rfl rfl ?_)
   refine L_nil ?_
   refine T_ret ?_
   refine T_as 0 _ (.blk g1 31 ((nonc a i).map b8)) rfl (by rw [← npad_all]) ?_
   exact T_fin () (by first | trivial | omega | (simp; done)) (resb 0 rfl rfl rfl Tryd.underlying31 rfl (fwz (n := 12) kr sd)) [] ⟨by decide, rfl⟩ rfl
set_option maxHeartbeats 4000000 in
theorem raad_f (pp : BitVec 64) (pr : BitVec 64) (pa : BitVec 64) (pt : BitVec 64) (pi : BitVec 64) (sz : BitVec 64) (w : World) (hO : HOK [] w)  : Calls Tryd.prog 23 [(.agg [(.int .i64 (i64 pp)), (.int .i64 (i64 pr)), (.int .i64 (i64 pa)), (b64 pt), (.int .i64 (i64 pi))].toArray), (.int .i64 (i64 sz))].toArray w (Ret (T := Option Addr × Nat) [] w (fun ⟨B, d⟩ => True) (fun ⟨B, d⟩ => (.slice B 48 d)) (fun ⟨B, d⟩ => [.row (.slice B 48 d) 5 1 48 ((eights [pp, pr, pa, pt, pi, sz]).map b8)])) := by
 have hF : Wid Fence.wide := wid_wide
 refine enter (c := _) Tryd.func23 rfl [] _ [] (by rw [Tryd.ntmps23]; rfl) (own_rds hO rfl) ?_
 rw [Tryd.ntmps23]
 refine T_re [(0, (.agg [(.int .i64 (i64 pp)), (.int .i64 (i64 pr)), (.int .i64 (i64 pa)), (b64 pt), (.int .i64 (i64 pi))].toArray)), (1, (.int .i64 (i64 sz)))] (sc rfl (sc rfl sn)) ?_
 refine T_he [] [] ⟨by decide, rfl⟩ ?_
 refine Tsr hF rfl ?_
 refine L_op rfl (op_box (zs := [(.int .i64 (i64 pp)), (.int .i64 (i64 pr)), (.int .i64 (i64 pa)), (b64 pt), (.int .i64 (i64 pi))]) rfl rfl rfl rfl rfl (fun g1 => ?_))
 refine la rfl rfl rfl rfl rfl ?_
 refine L_nil ?_
 refine Tsr hF rfl ?_
 refine lo rfl (pr_fa (m := 0) (m' := 0) (z := 0) (by rfl) Tryd.underlying24 rfl kr rfl rfl) rfl rfl ?_
 refine lq rfl (ld_blk 0 rfl rfl Tryd.underlying3 rfl rfl rfl) rfl rfl ?_
 refine lo rfl (pr_cv (zc_i64u pp) Tryd.underlying3 Tryd.underlying22 rfl rfl) rfl rfl ?_
 refine lo rfl (pr_fa (m := 0) (m' := 1) (z := 0) (by rfl) Tryd.underlying24 rfl kr rfl rfl) rfl rfl ?_
 refine lq rfl (ld_blk 0 rfl rfl Tryd.underlying3 rfl rfl rfl) rfl rfl ?_
 refine lo rfl (pr_cv (zc_i64u pr) Tryd.underlying3 Tryd.underlying22 rfl rfl) rfl rfl ?_
 refine lo rfl (pr_fa (m := 0) (m' := 2) (z := 0) (by rfl) Tryd.underlying24 rfl kr rfl rfl) rfl rfl ?_
 refine lq rfl (ld_blk 0 rfl rfl Tryd.underlying3 rfl rfl rfl) rfl rfl ?_
 refine lo rfl (pr_cv (zc_i64u pa) Tryd.underlying3 Tryd.underlying22 rfl rfl) rfl rfl ?_
 refine lo rfl (pr_fa (m := 0) (m' := 3) (z := 0) (by rfl) Tryd.underlying24 rfl kr rfl rfl) rfl rfl ?_
 refine lq rfl (ld_blk 0 rfl rfl Tryd.underlying22 rfl rfl rfl) rfl rfl ?_
 refine lo rfl (pr_fa (m := 0) (m' := 4) (z := 0) (by rfl) Tryd.underlying24 rfl kr rfl rfl) rfl rfl ?_
 refine lq rfl (ld_blk 0 rfl rfl Tryd.underlying3 rfl rfl rfl) rfl rfl ?_
 refine lo rfl (pr_cv (zc_i64u pi) Tryd.underlying3 Tryd.underlying22 rfl rfl) rfl rfl ?_
 refine lm rfl rfl rfl rfl rfl ?_
 refine lo rfl (pr_cv (zc_i64u sz) Tryd.underlying3 Tryd.underlying22 rfl rfl) rfl rfl ?_
 refine L_op rfl (op_bslice (e := 22) (zs := [(b64 pp), (b64 pr), (b64 pa), (b64 pt), (b64 pi), (b64 sz)]) (qs := [(0, (b64 pp)), (1, (b64 pr)), (2, (b64 pa)), (3, (b64 pt)), (4, (b64 pi)), (5, (b64 sz))]) (fun _ => by kernel_rfl) rfl rfl rfl rfl (fun g2 => ?_))
 refine L_op rfl (op_cn (fun w hw => r8eights_f [pp, pr, pa, pt, pi, sz] (some ⟨g2, 0, none⟩) 6 6 w (hok_cons ((src_full (z := 1) 0 rfl rfl sd sd) w hw) (hok_nil w)) sd sd) (enters_of Tryd.func34 kr rfl) rfl rfl rfl rfl rfl (fun t3 q4 => ?_))
 obtain ⟨B5, d6⟩ := t3
 refine T_slot 22 (.slice B5 (8 * 6) d6) (.slice B5 48 d6) rfl (by congr 1) ?_
 refine T_as 0 _ (.row (.slice B5 48 d6) 5 1 48 ((eights [pp, pr, pa, pt, pi, sz]).map b8)) rfl (rfl) ?_
 refine la rfl rfl rfl rfl rfl ?_
 refine L_nil ?_
 refine T_ret ?_
 exact T_fin (B5, d6) (by first | trivial | omega | (simp; done)) (res1 rfl rfl) [0] ⟨by decide, rfl⟩ rfl
end Go.Proofs.YtlplpmkdebemnaaDoor
namespace Go.Proofs.YtlplpmkdebemnaaDoor
set_option linter.unusedVariables false
set_option linter.unusedSimpArgs false
set_option linter.unnecessarySimpa false
set_option maxRecDepth 100000
open Go.RowKit Bv Fw

theorem decb0 : decb (0#64).toNat = [48#8] := decb_small (by decide)
theorem itob0 : itob (i64 0#64) = [48#8] := by rw [itob_pos (by decide)]; exact decb_small (by decide)
theorem name0 : pname (itob (i64 0#64)) (itob (i64 0#64)) (itob (i64 0#64)) (decb (0#64).toNat) (itob (i64 0#64)) = [112#8, 48#8, 46#8, 114#8, 48#8, 46#8, 97#8, 48#8, 46#8, 116#8, 48#8, 46#8, 105#8, 48#8] := by
  rw [decb0, itob0, pname_eq]; rfl

set_option maxRecDepth 100000 in
set_option maxHeartbeats 4000000 in
theorem awake8_f  (w : World) (hO : HOK [] w) (htab : Tab w) : Calls Tryd.prog 7 [].toArray w (Ret (T := Unit) [] w (fun _ => True) (fun _ => (.bool true)) (fun _ => [])) := by
 have hkl := kof_len [1#8, 0#8, 0#8, 0#8, 0#8, 0#8, 0#8, 0#8, 0#8, 0#8, 0#8, 0#8, 0#8, 0#8, 0#8, 0#8, 0#8, 0#8, 0#8, 0#8, 0#8, 0#8, 0#8, 0#8, 0#8, 0#8, 0#8, 0#8, 0#8, 0#8, 0#8, 0#8] ([106#8, 111#8, 98#8] ++ eights [2#64])
 have hF : Wid Fence.wide := wid_wide
 refine enter (c := _) Tryd.func7 rfl [] _ [] (by rw [Tryd.ntmps7]; rfl) (own_rds hO rfl) ?_
 rw [Tryd.ntmps7]
 refine T_re [] sn ?_
 refine T_he [] [] ⟨by decide, rfl⟩ ?_
 refine Tsr hF rfl ?_
 refine la rfl rfl rfl rfl rfl ?_
 refine L_nil ?_
 refine Tsr hF rfl ?_
 refine lo rfl (pr_build (qs := []) (v := .agg [(.int .i64 ((0 : Nat) : Int)), (.int .i64 ((0 : Nat) : Int)), (.int .i64 ((0 : Nat) : Int)), (b64 (0#64)), (.int .i64 ((0 : Nat) : Int))].toArray) (fun _ => by kernel_rfl) rfl rfl) rfl rfl ?_
 refine L_op rfl (op_cnK (fun w hw kp => kname_f (0#64) (0#64) (0#64) (0#64) (0#64) w (hok_nil w) (tab_keep htab kp)) (enters_of Tryd.func8 kr rfl) rfl rfl rfl rfl rfl (fun t1 q2 => ?_))
 refine T_slot 2 _ (.string (sob [112#8, 48#8, 46#8, 114#8, 48#8, 46#8, 97#8, 48#8, 46#8, 116#8, 48#8, 46#8, 105#8, 48#8])) rfl (by rw [name0]) ?_
 refine lo rfl (pr_streq (xs := [112#8, 48#8, 46#8, 114#8, 48#8, 46#8, 97#8, 48#8, 46#8, 116#8, 48#8, 46#8, 105#8, 48#8]) (ys := [112#8, 48#8, 46#8, 114#8, 48#8, 46#8, 97#8, 48#8, 46#8, 116#8, 48#8, 46#8, 105#8, 48#8]) rfl rfl kr) rfl rfl ?_
 refine lm rfl rfl rfl rfl rfl ?_
 refine T_slot 4 _ (.bool true) rfl (congrArg _ (by simp)) ?_
 refine lo rfl (pr_build (qs := [(0, (b8 (1#8)))]) (v := .agg ([1#8, 0#8, 0#8, 0#8, 0#8, 0#8, 0#8, 0#8, 0#8, 0#8, 0#8, 0#8, 0#8, 0#8, 0#8, 0#8, 0#8, 0#8, 0#8, 0#8, 0#8, 0#8, 0#8, 0#8, 0#8, 0#8, 0#8, 0#8, 0#8, 0#8, 0#8, 0#8].map b8).toArray) (fun _ => by kernel_rfl) rfl rfl) rfl rfl ?_
 refine L_op rfl (op_cn (fun w hw => kjob_f [1#8, 0#8, 0#8, 0#8, 0#8, 0#8, 0#8, 0#8, 0#8, 0#8, 0#8, 0#8, 0#8, 0#8, 0#8, 0#8, 0#8, 0#8, 0#8, 0#8, 0#8, 0#8, 0#8, 0#8, 0#8, 0#8, 0#8, 0#8, 0#8, 0#8, 0#8, 0#8] (2#64) w (hok_nil w) (by first | assumption | exact sd)) (enters_of Tryd.func14 kr rfl) rfl rfl rfl rfl rfl (fun t4 q5 => ?_))
 refine lo rfl (pr_build (qs := [(0, (b8 (1#8)))]) (v := .agg ([1#8, 0#8, 0#8, 0#8, 0#8, 0#8, 0#8, 0#8, 0#8, 0#8, 0#8, 0#8, 0#8, 0#8, 0#8, 0#8, 0#8, 0#8, 0#8, 0#8, 0#8, 0#8, 0#8, 0#8, 0#8, 0#8, 0#8, 0#8, 0#8, 0#8, 0#8, 0#8].map b8).toArray) (fun _ => by kernel_rfl) rfl rfl) rfl rfl ?_
 refine L_op rfl (op_cn (fun w hw => rjob_f [1#8, 0#8, 0#8, 0#8, 0#8, 0#8, 0#8, 0#8, 0#8, 0#8, 0#8, 0#8, 0#8, 0#8, 0#8, 0#8, 0#8, 0#8, 0#8, 0#8, 0#8, 0#8, 0#8, 0#8, 0#8, 0#8, 0#8, 0#8, 0#8, 0#8, 0#8, 0#8] (2#64) w (hok_nil w) (by first | assumption | exact sd)) (enters_of Tryd.func19 kr rfl) rfl rfl rfl rfl rfl (fun t6 q7 => ?_))
 refine lo rfl (pr_eqagg (bo := .eql) (c := ((kof [1#8, 0#8, 0#8, 0#8, 0#8, 0#8, 0#8, 0#8, 0#8, 0#8, 0#8, 0#8, 0#8, 0#8, 0#8, 0#8, 0#8, 0#8, 0#8, 0#8, 0#8, 0#8, 0#8, 0#8, 0#8, 0#8, 0#8, 0#8, 0#8, 0#8, 0#8, 0#8] ([106#8, 111#8, 98#8] ++ eights [(2#64)])) == (kof [1#8, 0#8, 0#8, 0#8, 0#8, 0#8, 0#8, 0#8, 0#8, 0#8, 0#8, 0#8, 0#8, 0#8, 0#8, 0#8, 0#8, 0#8, 0#8, 0#8, 0#8, 0#8, 0#8, 0#8, 0#8, 0#8, 0#8, 0#8, 0#8, 0#8, 0#8, 0#8] ([106#8, 111#8, 98#8] ++ eights [(2#64)])))) (r := ((kof [1#8, 0#8, 0#8, 0#8, 0#8, 0#8, 0#8, 0#8, 0#8, 0#8, 0#8, 0#8, 0#8, 0#8, 0#8, 0#8, 0#8, 0#8, 0#8, 0#8, 0#8, 0#8, 0#8, 0#8, 0#8, 0#8, 0#8, 0#8, 0#8, 0#8, 0#8, 0#8] ([106#8, 111#8, 98#8] ++ eights [(2#64)])) == (kof [1#8, 0#8, 0#8, 0#8, 0#8, 0#8, 0#8, 0#8, 0#8, 0#8, 0#8, 0#8, 0#8, 0#8, 0#8, 0#8, 0#8, 0#8, 0#8, 0#8, 0#8, 0#8, 0#8, 0#8, 0#8, 0#8, 0#8, 0#8, 0#8, 0#8, 0#8, 0#8] ([106#8, 111#8, 98#8] ++ eights [(2#64)])))) (eqb8 (xs := (kof [1#8, 0#8, 0#8, 0#8, 0#8, 0#8, 0#8, 0#8, 0#8, 0#8, 0#8, 0#8, 0#8, 0#8, 0#8, 0#8, 0#8, 0#8, 0#8, 0#8, 0#8, 0#8, 0#8, 0#8, 0#8, 0#8, 0#8, 0#8, 0#8, 0#8, 0#8, 0#8] ([106#8, 111#8, 98#8] ++ eights [(2#64)]))) (ys := (kof [1#8, 0#8, 0#8, 0#8, 0#8, 0#8, 0#8, 0#8, 0#8, 0#8, 0#8, 0#8, 0#8, 0#8, 0#8, 0#8, 0#8, 0#8, 0#8, 0#8, 0#8, 0#8, 0#8, 0#8, 0#8, 0#8, 0#8, 0#8, 0#8, 0#8, 0#8, 0#8] ([106#8, 111#8, 98#8] ++ eights [(2#64)]))) Tryd.underlying34 Tryd.underlying5 kr sd sd) kr rfl rfl rfl rfl rfl) rfl rfl ?_
 refine lo rfl (pr_pick_t rfl rfl rfl) rfl rfl ?_
 refine la rfl rfl rfl rfl rfl ?_
 refine L_nil ?_
 refine T_ret ?_
 refine T_slot 0 _ (.bool true) rfl (by simp) ?_
 exact T_fin () (by first | trivial | omega | (simp; done)) (res1 rfl rfl) [] ⟨by decide, rfl⟩ rfl
end Go.Proofs.YtlplpmkdebemnaaDoor
namespace Go.Proofs.YtlplpmkdebemnaaDoor
set_option linter.unusedVariables false
set_option linter.unusedSimpArgs false
set_option linter.unnecessarySimpa false
set_option maxRecDepth 100000
open Go.RowKit Bv Fw

set_option maxRecDepth 100000 in
set_option maxHeartbeats 4000000 in
theorem keysTell_f (job : List (BitVec 8)) (jid : BitVec 64) (pp : BitVec 64) (pr : BitVec 64) (pa : BitVec 64) (pt : BitVec 64) (pi : BitVec 64) (fr : BitVec 64) (start : BitVec 64) (na : BitVec 64) (ni : BitVec 64) (w : World) (hO : HOK [] w) (hj : job.length = 32) (htab : Tab w) : Calls Tryd.prog 6 [(.agg (job.map b8).toArray), (b64 jid), (.agg [(.int .i64 (i64 pp)), (.int .i64 (i64 pr)), (.int .i64 (i64 pa)), (b64 pt), (.int .i64 (i64 pi))].toArray), (.int .i64 (i64 fr)), (b64 start), (b64 na), (.int .i64 (i64 ni))].toArray w (Ret (T := Unit) [] w (fun _ => True) (fun _ => (.bool true)) (fun _ => [])) := by
 have hkj := kof_len job ([106#8, 111#8, 98#8] ++ eights [jid])
 have hk0 := kof_len (kof job ([106#8, 111#8, 98#8] ++ eights [jid])) ([112#8, 108#8, 97#8, 99#8, 101#8] ++ eights [pp, pr, pa])
 have hk1 := kof_len (kof job ([106#8, 111#8, 98#8] ++ eights [jid])) ([115#8, 101#8, 110#8, 100#8, 101#8, 114#8] ++ eights [fr, start])
 have hk2 := kof_len (kof job ([106#8, 111#8, 98#8] ++ eights [jid])) [106#8, 111#8, 117#8, 114#8, 110#8, 97#8, 108#8]
 have hnl := nonc_len na ni
 have hF : Wid Fence.wide := wid_wide
 refine enter (c := _) Tryd.func6 rfl [] _ [] (by rw [Tryd.ntmps6]; rfl) (own_rds hO rfl) ?_
 rw [Tryd.ntmps6]
 refine T_re [(0, (.agg (job.map b8).toArray)), (1, (b64 jid)), (2, (.agg [(.int .i64 (i64 pp)), (.int .i64 (i64 pr)), (.int .i64 (i64 pa)), (b64 pt), (.int .i64 (i64 pi))].toArray)), (3, (.int .i64 (i64 fr))), (4, (b64 start)), (5, (b64 na)), (6, (.int .i64 (i64 ni)))] (sc rfl (sc rfl (sc rfl (sc rfl (sc rfl (sc rfl (sc rfl sn))))))) ?_
 refine T_he [] [] ⟨by decide, rfl⟩ ?_
 refine Tsr hF rfl ?_
 refine L_op rfl (op_box (zs := (job.map b8)) rfl rfl rfl rfl rfl (fun g1 => ?_))
 refine L_op rfl (op_box (zs := [(.int .i64 (i64 pp)), (.int .i64 (i64 pr)), (.int .i64 (i64 pa)), (b64 pt), (.int .i64 (i64 pi))]) rfl rfl rfl rfl rfl (fun g2 => ?_))
 refine la rfl rfl rfl rfl rfl ?_
 refine L_nil ?_
 refine Tsr hF rfl ?_
 refine lq rfl (ld_agg (ds := (job.map b8)) 1 rfl agg_all Tryd.underlying34 rfl (fwz (n := 32) kr sd) rfl rfl) rfl rfl ?_
 refine lm rfl rfl rfl rfl rfl ?_
 refine L_op rfl (op_cn (fun w hw => kjob_f job jid w (hok_nil w) (by first | assumption | exact sd)) (enters_of Tryd.func14 kr rfl) rfl rfl rfl rfl rfl (fun t3 q4 => ?_))
 refine L_op rfl (op_alloc (z := .agg ((List.replicate 32 0#8).map b8).toArray) (zs := ((List.replicate 32 0#8).map b8)) kr rfl rfl rfl rfl (fun g5 => ?_))
 refine L_op rfl (op_sto (n := 32) (vs := ((kof job ([106#8, 111#8, 98#8] ++ eights [jid])).map b8)) 0 rfl rfl kr (all8_one _) kr sd rfl rfl rfl rfl ?_)
 refine L_nil ?_
 refine T_seq ?_
 refine T_regD [.blk g5 34 ((kof job ([106#8, 111#8, 98#8] ++ eights [jid])).map b8), .blk g2 24 [(.int .i64 (i64 pp)), (.int .i64 (i64 pr)), (.int .i64 (i64 pa)), (b64 pt), (.int .i64 (i64 pi))], .blk g1 34 (job.map b8)] 61 61 #[false, false, false, false, false, false, false, false, false, false, false, false, false, false, false, false, false, false, false, false, false, false, false, false, false, false, false, false, false, false, false, false, false, false, false, false, false, false, false, false, false, false, false, false, false, false, false, false, false, false, false, false, false, false, false, false, false, false, false, false, false] hF kr kr ?_
 refine D_one 0 _ rfl kr rfl (op_cnK (fun w hw kp => awake8_f  w (hok_nil w) (tab_keep htab kp)) (enters_of Tryd.func7 kr rfl) rfl rfl rfl rfl rfl (fun t6 q7 => ?_))
 refine D_on [0, 1, 2] rfl ?_
 refine D_pure (i := 1) [0, 1, 2] rfl kr rfl (pr_move rfl rfl) (.inr rfl) rfl rfl ?_
 refine D_pure (i := 4) [0, 1, 2] rfl kr rfl (pr_move rfl rfl) (.inr rfl) rfl rfl ?_
 refine D_take (i := 2) [0, 1, 2] rfl kr rfl (ld_agg (ds := ((kof job ([106#8, 111#8, 98#8] ++ eights [jid])).map b8)) 0 rfl agg_all Tryd.underlying34 rfl (fwz (n := 32) kr sd) rfl rfl) rfl rfl rfl ?_
 refine D_take (i := 3) [0, 1, 2] rfl kr rfl (ld_agg (ds := (job.map b8)) 2 rfl agg_all Tryd.underlying34 rfl (fwz (n := 32) kr sd) rfl rfl) rfl rfl rfl ?_
 refine D_one 5 _ rfl kr rfl (op_cn (fun w hw => rjob_f job jid w (hok_nil w) (by first | assumption | exact sd)) (enters_of Tryd.func19 kr rfl) rfl rfl rfl rfl rfl (fun t8 q9 => ?_))
 refine D_on [0, 1, 2] rfl ?_
 refine D_pure (i := 6) [0, 1, 2] rfl kr rfl (pr_eqagg (bo := .eql) (c := ((kof job ([106#8, 111#8, 98#8] ++ eights [jid])) == (kof job ([106#8, 111#8, 98#8] ++ eights [jid])))) (r := ((kof job ([106#8, 111#8, 98#8] ++ eights [jid])) == (kof job ([106#8, 111#8, 98#8] ++ eights [jid])))) (eqb8 (xs := (kof job ([106#8, 111#8, 98#8] ++ eights [jid]))) (ys := (kof job ([106#8, 111#8, 98#8] ++ eights [jid]))) Tryd.underlying34 Tryd.underlying5 kr sd sd) kr rfl rfl rfl rfl rfl) (.inr rfl) rfl rfl ?_
 refine D_pure (i := 7) [0, 1, 2] rfl kr rfl (pr_pick_t rfl rfl rfl) (.inr rfl) rfl rfl ?_
 refine D_pure (i := 8) [0, 1, 2] rfl kr rfl (pr_move rfl rfl) (.inr rfl) rfl rfl ?_
 refine T_slot 25 _ (.bool true) rfl (congrArg _ (by simp)) ?_
 refine T_slot 26 _ (.bool true) rfl (congrArg _ (by simp)) ?_
 refine T_slot 27 _ (.bool true) rfl (congrArg _ (by simp)) ?_
 refine D_take (i := 9) [0, 1, 2] rfl kr rfl (ld_agg (ds := ((kof job ([106#8, 111#8, 98#8] ++ eights [jid])).map b8)) 0 rfl agg_all Tryd.underlying34 rfl (fwz (n := 32) kr sd) rfl rfl) rfl rfl rfl ?_
 refine D_take (i := 10) [0, 1, 2] rfl kr rfl (ld_agg (ds := [(.int .i64 (i64 pp)), (.int .i64 (i64 pr)), (.int .i64 (i64 pa)), (b64 pt), (.int .i64 (i64 pi))]) 1 rfl agg_all Tryd.underlying24 rfl kr rfl rfl) rfl rfl rfl ?_
 refine D_take (i := 12) [0, 1, 2] rfl kr rfl (ld_agg (ds := ((kof job ([106#8, 111#8, 98#8] ++ eights [jid])).map b8)) 0 rfl agg_all Tryd.underlying34 rfl (fwz (n := 32) kr sd) rfl rfl) rfl rfl rfl ?_
 refine D_take (i := 13) [0, 1, 2] rfl kr rfl (ld_agg (ds := [(.int .i64 (i64 pp)), (.int .i64 (i64 pr)), (.int .i64 (i64 pa)), (b64 pt), (.int .i64 (i64 pi))]) 1 rfl agg_all Tryd.underlying24 rfl kr rfl rfl) rfl rfl rfl ?_
 refine D_one 11 _ rfl kr rfl (op_cn (fun w hw => kplace_f (kof job ([106#8, 111#8, 98#8] ++ eights [jid])) pp pr pa pt pi w (hok_nil w) (by first | assumption | exact sd)) (enters_of Tryd.func15 kr rfl) rfl rfl rfl rfl rfl (fun t10 q11 => ?_))
 refine D_on [0, 1, 2] rfl ?_
 refine D_one 14 _ rfl kr rfl (op_cn (fun w hw => rplace8_f (kof job ([106#8, 111#8, 98#8] ++ eights [jid])) pp pr pa pt pi w (hok_nil w) (by first | assumption | exact sd)) (enters_of Tryd.func20 kr rfl) rfl rfl rfl rfl rfl (fun t12 q13 => ?_))
 refine D_on [0, 1, 2] rfl ?_
 refine D_pure (i := 15) [0, 1, 2] rfl kr rfl (pr_eqagg (bo := .eql) (c := ((kof (kof job ([106#8, 111#8, 98#8] ++ eights [jid])) ([112#8, 108#8, 97#8, 99#8, 101#8] ++ eights [pp, pr, pa])) == (kof (kof job ([106#8, 111#8, 98#8] ++ eights [jid])) ([112#8, 108#8, 97#8, 99#8, 101#8] ++ eights [pp, pr, pa])))) (r := ((kof (kof job ([106#8, 111#8, 98#8] ++ eights [jid])) ([112#8, 108#8, 97#8, 99#8, 101#8] ++ eights [pp, pr, pa])) == (kof (kof job ([106#8, 111#8, 98#8] ++ eights [jid])) ([112#8, 108#8, 97#8, 99#8, 101#8] ++ eights [pp, pr, pa])))) (eqb8 (xs := (kof (kof job ([106#8, 111#8, 98#8] ++ eights [jid])) ([112#8, 108#8, 97#8, 99#8, 101#8] ++ eights [pp, pr, pa]))) (ys := (kof (kof job ([106#8, 111#8, 98#8] ++ eights [jid])) ([112#8, 108#8, 97#8, 99#8, 101#8] ++ eights [pp, pr, pa]))) Tryd.underlying34 Tryd.underlying5 kr sd sd) kr rfl rfl rfl rfl rfl) (.inr rfl) rfl rfl ?_
 refine D_pure (i := 16) [0, 1, 2] rfl kr rfl (pr_pick_t rfl rfl rfl) (.inr rfl) rfl rfl ?_
 refine D_pure (i := 17) [0, 1, 2] rfl kr rfl (pr_move rfl rfl) (.inr rfl) rfl rfl ?_
 refine T_slot 34 _ (.bool true) rfl (congrArg _ (by simp)) ?_
 refine T_slot 35 _ (.bool true) rfl (congrArg _ (by simp)) ?_
 refine T_slot 36 _ (.bool true) rfl (congrArg _ (by simp)) ?_
 refine D_pure (i := 19) [0, 1, 2] rfl kr rfl (pr_move rfl rfl) (.inr rfl) rfl rfl ?_
 refine D_pure (i := 20) [0, 1, 2] rfl kr rfl (pr_move rfl rfl) (.inr rfl) rfl rfl ?_
 refine D_pure (i := 23) [0, 1, 2] rfl kr rfl (pr_move rfl rfl) (.inr rfl) rfl rfl ?_
 refine D_pure (i := 24) [0, 1, 2] rfl kr rfl (pr_move rfl rfl) (.inr rfl) rfl rfl ?_
 refine D_take (i := 18) [0, 1, 2] rfl kr rfl (ld_agg (ds := ((kof job ([106#8, 111#8, 98#8] ++ eights [jid])).map b8)) 0 rfl agg_all Tryd.underlying34 rfl (fwz (n := 32) kr sd) rfl rfl) rfl rfl rfl ?_
 refine D_take (i := 22) [0, 1, 2] rfl kr rfl (ld_agg (ds := ((kof job ([106#8, 111#8, 98#8] ++ eights [jid])).map b8)) 0 rfl agg_all Tryd.underlying34 rfl (fwz (n := 32) kr sd) rfl rfl) rfl rfl rfl ?_
 refine D_one 21 _ rfl kr rfl (op_cn (fun w hw => ksender_f (kof job ([106#8, 111#8, 98#8] ++ eights [jid])) fr start w (hok_nil w) (by first | assumption | exact sd)) (enters_of Tryd.func16 kr rfl) rfl rfl rfl rfl rfl (fun t14 q15 => ?_))
 refine D_on [0, 1, 2] rfl ?_
 refine D_one 25 _ rfl kr rfl (op_cn (fun w hw => rsender_f (kof job ([106#8, 111#8, 98#8] ++ eights [jid])) fr start w (hok_nil w) (by first | assumption | exact sd)) (enters_of Tryd.func21 kr rfl) rfl rfl rfl rfl rfl (fun t16 q17 => ?_))
 refine D_on [0, 1, 2] rfl ?_
 refine D_pure (i := 26) [0, 1, 2] rfl kr rfl (pr_eqagg (bo := .eql) (c := ((kof (kof job ([106#8, 111#8, 98#8] ++ eights [jid])) ([115#8, 101#8, 110#8, 100#8, 101#8, 114#8] ++ eights [fr, start])) == (kof (kof job ([106#8, 111#8, 98#8] ++ eights [jid])) ([115#8, 101#8, 110#8, 100#8, 101#8, 114#8] ++ eights [fr, start])))) (r := ((kof (kof job ([106#8, 111#8, 98#8] ++ eights [jid])) ([115#8, 101#8, 110#8, 100#8, 101#8, 114#8] ++ eights [fr, start])) == (kof (kof job ([106#8, 111#8, 98#8] ++ eights [jid])) ([115#8, 101#8, 110#8, 100#8, 101#8, 114#8] ++ eights [fr, start])))) (eqb8 (xs := (kof (kof job ([106#8, 111#8, 98#8] ++ eights [jid])) ([115#8, 101#8, 110#8, 100#8, 101#8, 114#8] ++ eights [fr, start]))) (ys := (kof (kof job ([106#8, 111#8, 98#8] ++ eights [jid])) ([115#8, 101#8, 110#8, 100#8, 101#8, 114#8] ++ eights [fr, start]))) Tryd.underlying34 Tryd.underlying5 kr sd sd) kr rfl rfl rfl rfl rfl) (.inr rfl) rfl rfl ?_
 refine D_pure (i := 27) [0, 1, 2] rfl kr rfl (pr_pick_t rfl rfl rfl) (.inr rfl) rfl rfl ?_
 refine D_pure (i := 28) [0, 1, 2] rfl kr rfl (pr_move rfl rfl) (.inr rfl) rfl rfl ?_
 refine T_slot 45 _ (.bool true) rfl (congrArg _ (by simp)) ?_
 refine T_slot 46 _ (.bool true) rfl (congrArg _ (by simp)) ?_
 refine T_slot 47 _ (.bool true) rfl (congrArg _ (by simp)) ?_
 refine D_take (i := 29) [0, 1, 2] rfl kr rfl (ld_agg (ds := ((kof job ([106#8, 111#8, 98#8] ++ eights [jid])).map b8)) 0 rfl agg_all Tryd.underlying34 rfl (fwz (n := 32) kr sd) rfl rfl) rfl rfl rfl ?_
 refine D_take (i := 31) [0, 1, 2] rfl kr rfl (ld_agg (ds := ((kof job ([106#8, 111#8, 98#8] ++ eights [jid])).map b8)) 0 rfl agg_all Tryd.underlying34 rfl (fwz (n := 32) kr sd) rfl rfl) rfl rfl rfl ?_
 refine D_one 30 _ rfl kr rfl (op_cn (fun w hw => kjour_f (kof job ([106#8, 111#8, 98#8] ++ eights [jid])) w (hok_nil w) (by first | assumption | exact sd)) (enters_of Tryd.func17 kr rfl) rfl rfl rfl rfl rfl (fun t18 q19 => ?_))
 refine D_on [0, 1, 2] rfl ?_
 refine D_one 32 _ rfl kr rfl (op_cn (fun w hw => rjour_f (kof job ([106#8, 111#8, 98#8] ++ eights [jid])) w (hok_nil w) (by first | assumption | exact sd)) (enters_of Tryd.func22 kr rfl) rfl rfl rfl rfl rfl (fun t20 q21 => ?_))
 refine D_on [0, 1, 2] rfl ?_
 refine D_pure (i := 33) [0, 1, 2] rfl kr rfl (pr_eqagg (bo := .eql) (c := ((kof (kof job ([106#8, 111#8, 98#8] ++ eights [jid])) [106#8, 111#8, 117#8, 114#8, 110#8, 97#8, 108#8]) == (kof (kof job ([106#8, 111#8, 98#8] ++ eights [jid])) [106#8, 111#8, 117#8, 114#8, 110#8, 97#8, 108#8]))) (r := ((kof (kof job ([106#8, 111#8, 98#8] ++ eights [jid])) [106#8, 111#8, 117#8, 114#8, 110#8, 97#8, 108#8]) == (kof (kof job ([106#8, 111#8, 98#8] ++ eights [jid])) [106#8, 111#8, 117#8, 114#8, 110#8, 97#8, 108#8]))) (eqb8 (xs := (kof (kof job ([106#8, 111#8, 98#8] ++ eights [jid])) [106#8, 111#8, 117#8, 114#8, 110#8, 97#8, 108#8])) (ys := (kof (kof job ([106#8, 111#8, 98#8] ++ eights [jid])) [106#8, 111#8, 117#8, 114#8, 110#8, 97#8, 108#8])) Tryd.underlying34 Tryd.underlying5 kr sd sd) kr rfl rfl rfl rfl rfl) (.inr rfl) rfl rfl ?_
 refine D_pure (i := 34) [0, 1, 2] rfl kr rfl (pr_pick_t rfl rfl rfl) (.inr rfl) rfl rfl ?_
 refine D_pure (i := 35) [0, 1, 2] rfl kr rfl (pr_move rfl rfl) (.inr rfl) rfl rfl ?_
 refine T_slot 52 _ (.bool true) rfl (congrArg _ (by simp)) ?_
 refine T_slot 53 _ (.bool true) rfl (congrArg _ (by simp)) ?_
 refine T_slot 54 _ (.bool true) rfl (congrArg _ (by simp)) ?_
 refine D_pure (i := 36) [0, 1, 2] rfl kr rfl (pr_move rfl rfl) (.inr rfl) rfl rfl ?_
 refine D_pure (i := 37) [0, 1, 2] rfl kr rfl (pr_move rfl rfl) (.inr rfl) rfl rfl ?_
 refine D_pure (i := 39) [0, 1, 2] rfl kr rfl (pr_move rfl rfl) (.inr rfl) rfl rfl ?_
 refine D_pure (i := 40) [0, 1, 2] rfl kr rfl (pr_move rfl rfl) (.inr rfl) rfl rfl ?_
 refine D_one 38 _ rfl kr rfl (op_cn (fun w hw => knonce_f na ni w (hok_nil w) ) (enters_of Tryd.func11 kr rfl) rfl rfl rfl rfl rfl (fun t22 q23 => ?_))
 refine D_on [0, 1, 2] rfl ?_
 refine D_one 41 _ rfl kr rfl (op_cn (fun w hw => rnonce_f na ni w (hok_nil w) ) (enters_of Tryd.func18 kr rfl) rfl rfl rfl rfl rfl (fun t24 q25 => ?_))
 refine D_on [0, 1, 2] rfl ?_
 refine D_pure (i := 42) [0, 1, 2] rfl kr rfl (pr_eqagg (bo := .eql) (c := ((nonc na ni) == (nonc na ni))) (r := ((nonc na ni) == (nonc na ni))) (eqb8 (xs := (nonc na ni)) (ys := (nonc na ni)) Tryd.underlying31 Tryd.underlying5 kr sd sd) kr rfl rfl rfl rfl rfl) (.inr rfl) rfl rfl ?_
 refine D_pure (i := 43) [0, 1, 2] rfl kr rfl (pr_pick_t rfl rfl rfl) (.inr rfl) rfl rfl ?_
 refine D_pure (i := 44) [0, 1, 2] rfl kr rfl (pr_move rfl rfl) (.inr rfl) rfl rfl ?_
 refine T_slot 61 (.bool ((nonc na ni) == (nonc na ni))) (.bool true) rfl (congrArg _ (by simp)) ?_
 refine T_slot 62 (.bool ((nonc na ni) == (nonc na ni))) (.bool true) rfl (congrArg _ (by simp)) ?_
 refine T_slot 63 (.bool ((nonc na ni) == (nonc na ni))) (.bool true) rfl (congrArg _ (by simp)) ?_
 refine D_pure (i := 46) [0, 1, 2] rfl kr rfl (pr_move rfl rfl) (.inr rfl) rfl rfl ?_
 refine D_pure (i := 49) [0, 1, 2] rfl kr rfl (pr_move rfl rfl) (.inr rfl) rfl rfl ?_
 refine D_take (i := 45) [0, 1, 2] rfl kr rfl (ld_agg (ds := [(.int .i64 (i64 pp)), (.int .i64 (i64 pr)), (.int .i64 (i64 pa)), (b64 pt), (.int .i64 (i64 pi))]) 1 rfl agg_all Tryd.underlying24 rfl kr rfl rfl) rfl rfl rfl ?_
 refine D_take (i := 48) [0, 1, 2] rfl kr rfl (ld_agg (ds := [(.int .i64 (i64 pp)), (.int .i64 (i64 pr)), (.int .i64 (i64 pa)), (b64 pt), (.int .i64 (i64 pi))]) 1 rfl agg_all Tryd.underlying24 rfl kr rfl rfl) rfl rfl rfl ?_
 refine D_one 47 _ rfl kr rfl (op_cn (fun w hw => kaadz_f pp pr pa pt pi ni w (hok_nil w) ) (enters_of Tryd.func10 kr rfl) rfl rfl rfl rfl rfl (fun t26 q27 => ?_))
 obtain ⟨B28, d29⟩ := t26
 refine D_on [1, 2, 3] rfl ?_
 refine D_one 50 _ rfl kr rfl (op_cn (fun w hw => raad_f pp pr pa pt pi ni w (hok_nil w) ) (enters_of Tryd.func23 kr rfl) rfl rfl rfl rfl rfl (fun t30 q31 => ?_))
 obtain ⟨B32, d33⟩ := t30
 refine D_on [2, 3, 4] rfl ?_
 refine D_one 51 _ rfl kr rfl (op_cn (fun w hw => bytes_f (eights [pp, pr, pa, pt, pi, ni]) (eights [pp, pr, pa, pt, pi, ni]) B28 48 d29 B32 48 d33 w (hok_cons ((src_old 1 rfl) w hw) (hok_cons ((src_row 0 rfl) w hw) (hok_nil w))) ) (enters_of Tryd.func9 kr rfl) rfl rfl rfl rfl rfl (fun t34 q35 => ?_))
 refine D_on [2, 3, 4] rfl ?_
 refine D_pure (i := 52) [2, 3, 4] rfl kr rfl (pr_pick_t rfl rfl rfl) (.inr rfl) rfl rfl ?_
 refine D_pure (i := 53) [2, 3, 4] rfl kr rfl (pr_move rfl rfl) (.inr rfl) rfl rfl ?_
 refine T_slot 70 _ (.bool true) rfl (congrArg _ (by simp)) ?_
 refine T_slot 71 _ (.bool true) rfl (congrArg _ (by simp)) ?_
 refine T_slot 72 _ (.bool true) rfl (congrArg _ (by simp)) ?_
 refine D_take (i := 54) [2, 3, 4] rfl kr rfl (ld_agg (ds := [(.int .i64 (i64 pp)), (.int .i64 (i64 pr)), (.int .i64 (i64 pa)), (b64 pt), (.int .i64 (i64 pi))]) 1 rfl agg_all Tryd.underlying24 rfl kr rfl rfl) rfl rfl rfl ?_
 refine D_take (i := 56) [2, 3, 4] rfl kr rfl (ld_agg (ds := [(.int .i64 (i64 pp)), (.int .i64 (i64 pr)), (.int .i64 (i64 pa)), (b64 pt), (.int .i64 (i64 pi))]) 1 rfl agg_all Tryd.underlying24 rfl kr rfl rfl) rfl rfl rfl ?_
 refine D_one 55 _ rfl kr rfl (op_cnK (fun w hw kp => kname_f pp pr pa pt pi w (hok_nil w) (tab_keep htab kp)) (enters_of Tryd.func8 kr rfl) rfl rfl rfl rfl rfl (fun t36 q37 => ?_))
 refine D_on [2, 3, 4] rfl ?_
 refine D_one 57 _ rfl kr rfl (op_cn (fun w hw => rname_f pp pr pa pt pi w (hok_nil w) ) (enters_of Tryd.func24 kr rfl) rfl rfl rfl rfl rfl (fun t38 q39 => ?_))
 refine D_on [2, 3, 4] rfl ?_
 refine D_pure (i := 58) [2, 3, 4] rfl kr rfl (pr_streq rfl rfl rfl) (.inr rfl) rfl rfl ?_
 refine D_pure (i := 59) [2, 3, 4] rfl kr rfl (pr_pick_t rfl rfl rfl) (.inr rfl) rfl rfl ?_
 refine D_pure (i := 60) [2, 3, 4] rfl kr rfl (pr_assign rfl rfl) (.inr rfl) rfl rfl ?_
 refine D_done kr ?_
 refine T_ret ?_
 refine T_slot 14 _ (.bool true) rfl (by simp) ?_
 exact T_fin () (by first | trivial | omega | (simp; done)) (res1 rfl rfl) [] ⟨by decide, rfl⟩ rfl
end Go.Proofs.YtlplpmkdebemnaaDoor
namespace Go.Proofs.YtlplpmkdebemnaaDoor.keysTell
open Fw Go.ChangeShapes Go.WideShapes Go.ChangeAt Go.RowKit Bv
open Go.ChangeMaps (open_string shut_string)
set_option linter.unusedVariables false
theorem own : ownKnob Tryd.prog.godebug = none := by kernel_rfl
theorem laidOut : laidOutB Tryd.prog = true := by kernel_rfl
set_option maxRecDepth 100000 in
theorem lifted (os : Os) (started : os.Started) (H : Type) (enc : TypeId × Value → H) :
    ReturnsInHanded {} Tryd.checked os 6 .any (fun w args => (Rows.keysTellSpec.pre enc Tryd.prog Tryd.f6 [] false w args ∧ laidMetH Tryd.prog laidL w) ∧ sizedMet enc Tryd.prog Tryd.f6 (OpenSpec.ofChange Rows.keysTellSpec) false w args) (Rows.keysTellSpec.post enc Tryd.prog Tryd.f6 false true false false) := by
  refine returnsInHanded_of_change_and (C := Tryd.checked) (X := fun w _ => laidMetH Tryd.prog laidL w) (fun _ _ _ hh h => laidMet.of_heap hh h) own started (by kernel_rfl) Tryd.func6
    (ChangeSpec.witness_at (enc := enc) (C := Tryd.checked) (os := os) (X := fun w _ => laidMetH Tryd.prog laidL w) false (laidWorld os) #[.agg (Array.replicate 32 (.int .u8 0)), .int .u64 0, .agg #[.int .i64 0, .int .i64 0, .int .i64 0, .int .u64 0, .int .i64 0], .int .i64 0, .int .u64 0, .int .u64 0, .int .i64 0] 8 rfl (by kernel_rfl) (by kernel_rfl) (by kernel_rfl) (by kernel_rfl) (by kernel_rfl) (laidWorld_met os _)) ?_
  intro W base args ds gs before hval0 hW hcnd _ hL _
  have hval : ∀ (j : Nat) t v, Tryd.f6.params[j]? = some t → args[j]? = some v → Value.okWide Tryd.prog W .any base t v := hval0
  have hW' := hW
  obtain ⟨p, q, hA0, hV, rfl, hfz, hnd⟩ := hW
  have hA : DataW.TrodAll enc Tryd.prog W 0 (fun _ => true) true Tryd.f6.params.toList args.toList ds p := hA0
  rw [Tryd.params6] at hA hval
  obtain ⟨v0, vs0, d0, ds0, p0, q0, hargs, rfl, rfl, h0, r0⟩ := trodAll_cons hA
  obtain ⟨v1, vs1, d1, ds1, p1, q1, rfl, rfl, rfl, h1, r1⟩ := trodAll_cons r0
  obtain ⟨v2, vs2, d2, ds2, p2, q2, rfl, rfl, rfl, h2, r2⟩ := trodAll_cons r1
  obtain ⟨v3, vs3, d3, ds3, p3, q3, rfl, rfl, rfl, h3, r3⟩ := trodAll_cons r2
  obtain ⟨v4, vs4, d4, ds4, p4, q4, rfl, rfl, rfl, h4, r4⟩ := trodAll_cons r3
  obtain ⟨v5, vs5, d5, ds5, p5, q5, rfl, rfl, rfl, h5, r5⟩ := trodAll_cons r4
  obtain ⟨v6, vs6, d6, ds6, p6, q6, rfl, rfl, rfl, h6, r6⟩ := trodAll_cons r5
  obtain ⟨rfl, rfl, rfl⟩ := trodAll_nil r6
  obtain rfl : args = #[v0, v1, v2, v3, v4, v5, v6] := by cases args; simp_all
  obtain ⟨rfl, rfl⟩ := trodVars_none hV
  have k0 := h0
  have lt0 : ∀ x ∈ p0, x.block < W.heap.size := by obtain ⟨m, hm⟩ := k0; exact DataW.trod_lt m _ _ _ hm
  obtain ⟨fu0, hf0⟩ := h0
  obtain ⟨x0, hx0, rfl⟩ := open_arr (n := 32) n8 all8 Tryd.underlying34 Tryd.underlying5 (by kernel_rfl) (by kernel_rfl) (hval 0 34 v0 rfl rfl) hf0
  obtain ⟨a1, rfl, rfl, rfl, w1⟩ := open_int Tryd.underlying22 (hval 1 22 v1 rfl rfl) h1
  obtain ⟨x1, rfl⟩ := ex64 w1
  have k2 := h2
  have lt2 : ∀ x ∈ p2, x.block < W.heap.size := by obtain ⟨m, hm⟩ := k2; exact DataW.trod_lt m _ _ _ hm
  obtain ⟨fu2, hf2⟩ := h2
  obtain ⟨cs2, rfl, hl2, hs2⟩ := open_struct Tryd.underlying24 (hval 2 24 v2 rfl rfl) hf2
  have hl2 := hl2.trans (show _ = 5 by kernel_rfl)
  obtain ⟨c2_0, r2_0, rfl, hl2_0⟩ := cons_of hl2
  obtain ⟨c2_1, r2_1, rfl, hl2_1⟩ := cons_of hl2_0
  obtain ⟨c2_2, r2_2, rfl, hl2_2⟩ := cons_of hl2_1
  obtain ⟨c2_3, r2_3, rfl, hl2_3⟩ := cons_of hl2_2
  obtain ⟨c2_4, r2_4, rfl, hl2_4⟩ := cons_of hl2_3
  obtain rfl := List.length_eq_zero_iff.1 hl2_4
  obtain ⟨z2_0, rfl, w2_0⟩ := field_int hs2 0 rfl Tryd.underlying3 (by kernel_rfl) rfl
  obtain ⟨x2_0, rfl⟩ := exi64 w2_0
  obtain ⟨z2_1, rfl, w2_1⟩ := field_int hs2 1 rfl Tryd.underlying3 (by kernel_rfl) rfl
  obtain ⟨x2_1, rfl⟩ := exi64 w2_1
  obtain ⟨z2_2, rfl, w2_2⟩ := field_int hs2 2 rfl Tryd.underlying3 (by kernel_rfl) rfl
  obtain ⟨x2_2, rfl⟩ := exi64 w2_2
  obtain ⟨z2_3, rfl, w2_3⟩ := field_int hs2 3 rfl Tryd.underlying22 (by kernel_rfl) rfl
  obtain ⟨x2_3, rfl⟩ := ex64 w2_3
  obtain ⟨z2_4, rfl, w2_4⟩ := field_int hs2 4 rfl Tryd.underlying3 (by kernel_rfl) rfl
  obtain ⟨x2_4, rfl⟩ := exi64 w2_4
  clear hs2 hf2
  obtain ⟨a3, rfl, rfl, rfl, w3⟩ := open_int Tryd.underlying3 (hval 3 3 v3 rfl rfl) h3
  obtain ⟨x3, rfl⟩ := exi64 w3
  obtain ⟨a4, rfl, rfl, rfl, w4⟩ := open_int Tryd.underlying22 (hval 4 22 v4 rfl rfl) h4
  obtain ⟨x4, rfl⟩ := ex64 w4
  obtain ⟨a5, rfl, rfl, rfl, w5⟩ := open_int Tryd.underlying22 (hval 5 22 v5 rfl rfl) h5
  obtain ⟨x5, rfl⟩ := ex64 w5
  obtain ⟨a6, rfl, rfl, rfl, w6⟩ := open_int Tryd.underlying3 (hval 6 3 v6 rfl rfl) h6
  obtain ⟨x6, rfl⟩ := exi64 w6
  clear hA0 hval0
  have fin := keysTell_f x0 x1 x2_0 x2_1 x2_2 x2_3 x2_4 x3 x4 x5 x6 W (hok_nil W) hx0 (laid_tab hL)
  refine (law_of_ret fin).mono fun e W' ⟨he, bel⟩ => ?_
  subst he
  exact ⟨_, rfl, _, _, _, [], _, [], hW', trodAll_mk1 (shut_bool Tryd.underlying4 _), (trodAll_cons_mk (Below.trod laidOut (by kernel_rfl) (of_decide_eq_true (by kernel_rfl)) k0 bel lt0) (trodAll_cons_mk (shut_int Tryd.underlying22 w1) (trodAll_cons_mk (Below.trod laidOut (by kernel_rfl) (of_decide_eq_true (by kernel_rfl)) k2 bel lt2) (trodAll_cons_mk (shut_int Tryd.underlying3 w3) (trodAll_cons_mk (shut_int Tryd.underlying22 w4) (trodAll_cons_mk (shut_int Tryd.underlying22 w5) (trodAll_cons_mk (shut_int Tryd.underlying3 w6) trodAll_mk0))))))), rfl, bel.frame _, fun h => by cases h⟩
theorem over : Rows.keysTellRow.holds Tryd.pinned (OpenSpec.ofChange Rows.keysTellSpec) :=
  OpenClaim.holds_of_wide 6 Tryd.f6 rfl rfl rfl rfl rfl rfl rfl ⟨rfl, rfl, rfl, rfl, rfl⟩ rfl rfl rfl rfl rfl (by kernel_rfl) Tryd.func6 (by kernel_rfl)
    (of_decide_eq_true (by kernel_rfl)) (by unfold Func.isWrapper; first | (rw [if_pos (by decide +kernel)]; kernel_rfl) | (rw [if_neg (by decide +kernel)]; exact ⟨rfl, rfl⟩))
    (fun os started H enc _ => lifted os started H enc)
theorem proved : Rows.KeysTellCardSaid :=
  Claim7.holds_tied_plain_at .later [] [.data, .data, .data] true (true, "745d9957e3eaf97fc0047b5a2a2331510765a18beea88e2b3c98e43898ca1a3b") false
    over (fun _ h => by cases h) (by kernel_rfl) (fun _ h => by cases h) keysTell_row_tie rfl ⟨rfl, rfl⟩ (by kernel_rfl) rfl
    (fun f fn hf hfn => by
      obtain rfl : f = 6 := Option.some.inj ((show Tryd.prog.funcNamed "domino/dominolaw08.KeysTell" = some 6 by kernel_rfl).symm.trans hf) |>.symm
      obtain rfl : fn = Tryd.f6 := (Option.some.inj (Tryd.func6.symm.trans hfn)).symm
      refine ⟨by kernel_rfl, fun j t ht => ?_⟩
      have key : (Tryd.f6.params.toList.all fun t => !Tryd.prog.wantsStandIn t) = true := by kernel_rfl
      have := List.all_eq_true.1 key t (List.mem_of_getElem? (i := j) (by simpa using ht))
      have h9 : Tryd.prog.wantsStandIn t = false := by simpa using this
      exact h9)
    (by kernel_rfl)
#print axioms proved
end Go.Proofs.YtlplpmkdebemnaaDoor.keysTell
