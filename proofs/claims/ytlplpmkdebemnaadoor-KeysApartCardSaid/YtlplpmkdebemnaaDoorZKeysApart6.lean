/- Proved: 'domino/dominolaw08.KeysApart' returns true whatever comes in, and its arguments read behind the call as they read before it. No conditions. -/
import Derived.Test.YtlplpmkdebemnaaDoorZKeysApart5
import Derived.Test.YtlplpmkdebemnaaDoorProg
import Derived.Test.YtlplpmkdebemnaaDoorRows
import Derived.Test.YtlplpmkdebemnaaDoorTie
import Derived.Test.YtlplpmkdebemnaaDoorCards
import Derived.SevenTiedAt
import Derived.WalkKit
import Derived.ProofKit
import Derived.OpenShut
import Derived.ShutString
import Derived.ChangeOld
import Derived.Below
namespace Go.Proofs.YtlplpmkdebemnaaDoor
set_option linter.unusedVariables false
set_option linter.unusedSimpArgs false
set_option linter.unnecessarySimpa false
set_option maxRecDepth 100000
open Go.RowKit Bv Fw

theorem inf_one (w : List (BitVec 8)) (a : BitVec 64) : w ++ lowb a 8 = w ++ eights [a] := by simp [eights]
theorem inf_two (w : List (BitVec 8)) (a b : BitVec 64) : (w ++ lowb a 8) ++ lowb b 8 = w ++ eights [a, b] := by simp [eights]
theorem inf_three (w : List (BitVec 8)) (a b c : BitVec 64) : ((w ++ lowb a 8) ++ lowb b 8) ++ lowb c 8 = w ++ eights [a, b, c] := by simp [eights]
theorem inf_nil (w : List (BitVec 8)) : w ++ eights [] = w := by simp [eights]
/-- The nonce's bytes so far. -/
def npad (a i : BitVec 64) (k : Nat) : List (BitVec 8) := (lowb a 8 ++ lowb i 4).take k ++ List.replicate (12 - k) 0#8
theorem npad_len (a i : BitVec 64) (k : Nat) (h : k ≤ 12) : (npad a i k).length = 12 := by unfold npad; simp [lowb_len]; omega
theorem npad_zero (a i : BitVec 64) : npad a i 0 = List.replicate 12 0#8 := by unfold npad; simp
theorem npad_all (a i : BitVec 64) : npad a i 12 = nonc a i := by unfold npad; rw [List.take_of_length_le (by simp [lowb_len]), nonc_def]; simp
theorem npad_set (a i : BitVec 64) (k : Nat) (h : k < 12) (v : BitVec 8) (hv : v = ath (lowb a 8 ++ lowb i 4) k) : (npad a i k).set k v = npad a i (k + 1) := by
  subst hv
  have hl : (lowb a 8 ++ lowb i 4).length = 12 := by simp [lowb_len]
  unfold npad
  rw [List.set_append_right _ _ (by simp [lowb_len]; omega), List.length_take, hl, show k - min k 12 = 0 from by omega, show 12 - k = (12 - (k + 1)) + 1 from by omega, List.replicate_succ, List.set_cons_zero, List.take_succ_eq_append_getElem (by omega), ath_get _ k (by omega), List.append_assoc]
  rfl
theorem lowb_at (v : BitVec 64) : ∀ (n k : Nat), k < n → ath (lowb v n) k = (v >>> (8 * k)).setWidth 8
  | 0, _, h => by omega
  | n + 1, k, h => by
    rw [lowb]
    by_cases hk : k = n
    · subst hk; unfold ath; rw [List.getD_eq_getElem?_getD, List.getElem?_append_right (by rw [lowb_len]; omega), lowb_len]; simp
    · have := lowb_at v n k (by omega)
      unfold ath at *
      rw [List.getD_eq_getElem?_getD, List.getElem?_append_left (by rw [lowb_len]; omega), ← List.getD_eq_getElem?_getD]; exact this
theorem np_lo (a i : BitVec 64) (k : Nat) (h : k < 8) : (a >>> (8 * k)).setWidth 8 = ath (lowb a 8 ++ lowb i 4) k := by
  rw [← lowb_at a 8 k h]; unfold ath
  rw [List.getD_eq_getElem?_getD, List.getD_eq_getElem?_getD, List.getElem?_append_left (by rw [lowb_len]; omega)]
theorem np_hi (a i : BitVec 64) (k : Nat) (h : k < 4) : (i >>> (8 * k)).setWidth 8 = ath (lowb a 8 ++ lowb i 4) (8 + k) := by
  rw [← lowb_at i 4 k h]; unfold ath
  rw [List.getD_eq_getElem?_getD, List.getD_eq_getElem?_getD, List.getElem?_append_right (by rw [lowb_len]; omega), lowb_len, show 8 + k - 8 = k by omega]

set_option maxHeartbeats 4000000 in
theorem kjob_f (job : List (BitVec 8)) (jid : BitVec 64) (w : World) (hO : HOK [] w) (hj : job.length = 32) : Calls Tryd.prog 14 [(.agg (job.map b8).toArray), (b64 jid)].toArray w (Ret (T := Unit) [] w (fun _ => True) (fun _ => (.agg ((kof job ([106#8, 111#8, 98#8] ++ eights [jid])).map b8).toArray)) (fun _ => [])) := by
 have hil : (([106#8, 111#8, 98#8] ++ eights [jid])).length = 11 := by rw [List.length_append, eights_one]; rfl
 have hkl := kof_len job ([106#8, 111#8, 98#8] ++ eights [jid])
 have hF : Wid Fence.wide := wid_wide
 refine enter (c := _) Tryd.func14 rfl [] _ [] (by rw [Tryd.ntmps14]; rfl) (own_rds hO rfl) ?_
 rw [Tryd.ntmps14]
 refine T_re [(0, (.agg (job.map b8).toArray)), (1, (b64 jid))] (sc rfl (sc rfl sn)) ?_
 refine T_he [] [] ⟨by decide, rfl⟩ ?_
 refine Tsr hF rfl ?_
 refine L_op rfl (op_box (zs := (job.map b8)) rfl rfl rfl rfl rfl (fun g1 => ?_))
 refine L_op rfl (op_alloc (z := .agg ((List.replicate 32 0#8).map b8).toArray) (zs := ((List.replicate 32 0#8).map b8)) kr rfl rfl rfl rfl (fun g2 => ?_))
 refine L_nil ?_
 refine T_seq ?_
 refine T_regD [.blk g2 34 ((List.replicate 32 0#8).map b8), .blk g1 34 (job.map b8)] 5 6 #[false, false, false, false, false, false] hF kr kr ?_
 refine D_pure (i := 0) [0, 1] rfl kr rfl (pr_sla (l := 0) (u := 32) (m := 0) sd sd sd rfl Tryd.underlying34 (z := 1) kr rfl rfl rfl rfl) (.inr rfl) rfl rfl ?_
 refine D_pure (i := 1) [0, 1] rfl kr rfl (pr_move rfl rfl) (.inr rfl) rfl rfl ?_
 refine D_one 2 _ rfl kr rfl (op_bslice (e := 22) (zs := [(b64 jid)]) (qs := [(0, (b64 jid))]) (fun _ => by kernel_rfl) rfl rfl rfl rfl (fun g3 => ?_))
 refine D_on [1, 2] rfl ?_
 refine D_one 3 _ rfl kr rfl (op_cn (fun w hw => kinfo_f [106#8, 111#8, 98#8] 3 [jid] (some ⟨g3, 0, none⟩) 1 1 w (hok_cons ((src_full (z := 1) 0 rfl rfl sd sd) w hw) (hok_nil w)) (by first | rfl | (simp; done)) sd sd sd) (enters_of Tryd.func28 kr rfl) rfl rfl kr rfl rfl (fun t4 q5 => ?_))
 obtain ⟨B6, d7⟩ := t4
 refine T_slot 8 (.slice B6 (3 + 8 * 1) d7) (.slice B6 11 d7) rfl (by congr 1) ?_
 refine T_as 0 _ (.old B6 1 11 d7 (([106#8, 111#8, 98#8] ++ eights [jid]).map b8)) rfl rfl ?_
 refine D_on [2, 3] rfl ?_
 refine D_one 4 _ rfl kr rfl (op_cn (fun w hw => key_f [] none 0 0 job (some ⟨g1, 0, none⟩) 32 32 ([106#8, 111#8, 98#8] ++ eights [jid]) B6 11 d7 w (hok_cons ((src_nil 1) w hw) (hok_cons ((src_full (z := 1) 3 rfl sd sd sd) w hw) (hok_cons ((src_old 0 rfl) w hw) (hok_nil w)))) (by first | assumption | omega | (simp; done) | (simp; omega)) sd (by first | assumption | omega | (simp; done) | (simp; omega)) sd hil sd) (enters_of Tryd.func33 kr rfl) rfl rfl rfl rfl rfl (fun t8 q9 => ?_))
 refine T_slot 9 _ (.agg ((kof job ([106#8, 111#8, 98#8] ++ eights [jid])).map b8).toArray) rfl (by rw [kof_def]) ?_
 refine D_on [2, 3] rfl ?_
 refine D_one 5 _ rfl kr rfl (op_sto (n := 32) (vs := ((kof job ([106#8, 111#8, 98#8] ++ eights [jid])).map b8)) 2 rfl rfl kr (all8_one _) kr sd rfl rfl rfl rfl ?_)
 refine D_past kr ?_
 refine D_done kr ?_
 refine T_ret ?_
 exact T_fin () (by first | trivial | omega | (simp; done)) (resb 0 rfl rfl rfl Tryd.underlying34 rfl (fwz (n := 32) kr sd)) [] ⟨by decide, rfl⟩ rfl
set_option maxHeartbeats 4000000 in
theorem kjour_f (job : List (BitVec 8)) (w : World) (hO : HOK [] w) (hj : job.length = 32) : Calls Tryd.prog 17 [(.agg (job.map b8).toArray)].toArray w (Ret (T := Unit) [] w (fun _ => True) (fun _ => (.agg ((kof job [106#8, 111#8, 117#8, 114#8, 110#8, 97#8, 108#8]).map b8).toArray)) (fun _ => [])) := by
 have hil : ([106#8, 111#8, 117#8, 114#8, 110#8, 97#8, 108#8]).length = 7 := by rfl
 have hkl := kof_len job [106#8, 111#8, 117#8, 114#8, 110#8, 97#8, 108#8]
 have hF : Wid Fence.wide := wid_wide
 refine enter (c := _) Tryd.func17 rfl [] _ [] (by rw [Tryd.ntmps17]; rfl) (own_rds hO rfl) ?_
 rw [Tryd.ntmps17]
 refine T_re [(0, (.agg (job.map b8).toArray))] (sc rfl sn) ?_
 refine T_he [] [] ⟨by decide, rfl⟩ ?_
 refine Tsr hF rfl ?_
 refine L_op rfl (op_box (zs := (job.map b8)) rfl rfl rfl rfl rfl (fun g1 => ?_))
 refine L_op rfl (op_alloc (z := .agg ((List.replicate 32 0#8).map b8).toArray) (zs := ((List.replicate 32 0#8).map b8)) kr rfl rfl rfl rfl (fun g2 => ?_))
 refine L_nil ?_
 refine T_seq ?_
 refine T_regD [.blk g2 34 ((List.replicate 32 0#8).map b8), .blk g1 34 (job.map b8)] 3 4 #[false, false, false, false] hF kr kr ?_
 refine D_pure (i := 0) [0, 1] rfl kr rfl (pr_sla (l := 0) (u := 32) (m := 0) sd sd sd rfl Tryd.underlying34 (z := 1) kr rfl rfl rfl rfl) (.inr rfl) rfl rfl ?_
 refine D_one 1 _ rfl kr rfl (op_cn (fun w hw => kinfo_f [106#8, 111#8, 117#8, 114#8, 110#8, 97#8, 108#8] 7 [] none 0 0 w (hok_cons ((src_nil 1) w hw) (hok_nil w)) (by first | rfl | (simp; done)) sd sd sd) (enters_of Tryd.func28 kr rfl) rfl rfl kr rfl rfl (fun t3 q4 => ?_))
 obtain ⟨B5, d6⟩ := t3
 refine T_slot 4 (.slice B5 (7 + 8 * 0) d6) (.slice B5 7 d6) rfl (by congr 1) ?_
 refine T_as 0 _ (.old B5 1 7 d6 (([106#8, 111#8, 117#8, 114#8, 110#8, 97#8, 108#8] ++ eights []).map b8)) rfl rfl ?_
 refine T_as 0 _ (.old B5 1 7 d6 ([106#8, 111#8, 117#8, 114#8, 110#8, 97#8, 108#8].map b8)) rfl (by rw [inf_nil]) ?_
 refine D_on [1, 2] rfl ?_
 refine D_one 2 _ rfl kr rfl (op_cn (fun w hw => key_f [] none 0 0 job (some ⟨g1, 0, none⟩) 32 32 [106#8, 111#8, 117#8, 114#8, 110#8, 97#8, 108#8] B5 7 d6 w (hok_cons ((src_nil 1) w hw) (hok_cons ((src_full (z := 1) 2 rfl sd sd sd) w hw) (hok_cons ((src_old 0 rfl) w hw) (hok_nil w)))) (by first | assumption | omega | (simp; done) | (simp; omega)) sd (by first | assumption | omega | (simp; done) | (simp; omega)) sd hil sd) (enters_of Tryd.func33 kr rfl) rfl rfl rfl rfl rfl (fun t7 q8 => ?_))
 refine T_slot 5 _ (.agg ((kof job [106#8, 111#8, 117#8, 114#8, 110#8, 97#8, 108#8]).map b8).toArray) rfl (by rw [kof_def]) ?_
 refine D_on [1, 2] rfl ?_
 refine D_one 3 _ rfl kr rfl (op_sto (n := 32) (vs := ((kof job [106#8, 111#8, 117#8, 114#8, 110#8, 97#8, 108#8]).map b8)) 1 rfl rfl kr (all8_one _) kr sd rfl rfl rfl rfl ?_)
 refine D_past kr ?_
 refine D_done kr ?_
 refine T_ret ?_
 exact T_fin () (by first | trivial | omega | (simp; done)) (resb 0 rfl rfl rfl Tryd.underlying34 rfl (fwz (n := 32) kr sd)) [] ⟨by decide, rfl⟩ rfl
set_option maxHeartbeats 4000000 in
theorem rjob_f (job : List (BitVec 8)) (jid : BitVec 64) (w : World) (hO : HOK [] w) (hj : job.length = 32) : Calls Tryd.prog 19 [(.agg (job.map b8).toArray), (b64 jid)].toArray w (Ret (T := Unit) [] w (fun _ => True) (fun _ => (.agg ((kof job ([106#8, 111#8, 98#8] ++ eights [jid])).map b8).toArray)) (fun _ => [])) := by
 have hil : (([106#8, 111#8, 98#8] ++ eights [jid])).length = 11 := by rw [List.length_append, eights_one]; rfl
 have hkl := kof_len job ([106#8, 111#8, 98#8] ++ eights [jid])
 have hF : Wid Fence.wide := wid_wide
 refine enter (c := _) Tryd.func19 rfl [] _ [] (by rw [Tryd.ntmps19]; rfl) (own_rds hO rfl) ?_
 rw [Tryd.ntmps19]
 refine T_re [(0, (.agg (job.map b8).toArray)), (1, (b64 jid))] (sc rfl (sc rfl sn)) ?_
 refine T_he [] [] ⟨by decide, rfl⟩ ?_
 refine Tsr hF rfl ?_
 refine L_op rfl (op_box (zs := (job.map b8)) rfl rfl rfl rfl rfl (fun g1 => ?_))
 refine L_op rfl (op_alloc (z := .agg ((List.replicate 32 0#8).map b8).toArray) (zs := ((List.replicate 32 0#8).map b8)) kr rfl rfl rfl rfl (fun g2 => ?_))
 refine L_nil ?_
 refine T_seq ?_
 refine T_regD [.blk g2 34 ((List.replicate 32 0#8).map b8), .blk g1 34 (job.map b8)] 5 8 #[false, false, false, false, false, false, false, false] hF kr kr ?_
 refine D_pure (i := 0) [0, 1] rfl kr rfl (pr_sla (l := 0) (u := 32) (m := 0) sd sd sd rfl Tryd.underlying34 (z := 1) kr rfl rfl rfl rfl) (.inr rfl) rfl rfl ?_
 refine D_pure (i := 3) [0, 1] rfl kr rfl (pr_move rfl rfl) (.inr rfl) rfl rfl ?_
 refine D_join (T := Unit) (fun _ => True) (fun _ => [(4, (.pointer (some ⟨g2, 0, none⟩)))]) (fun _ => [.blk g2 34 ((kof job ([106#8, 111#8, 98#8] ++ eights [jid])).map b8), .blk g1 34 (job.map b8)]) ?_ ?_
 ·
  refine D_all [1, 4] kr (by simp) ⟨⟨_, rfl, rfl, ?_⟩, ⟨_, rfl, rfl, ?_⟩, trivial⟩
  ·
   refine id (op_bslice (e := 5) (zs := [(b8 (106#8)), (b8 (111#8)), (b8 (98#8))]) (qs := [(0, (b8 (106#8))), (1, (b8 (111#8))), (2, (b8 (98#8)))]) (fun _ => by kernel_rfl) rfl rfl rfl rfl (fun g12 => ?_))
   refine D_on [1, 2] rfl ?_
   refine D_all [2, 4] kr (by simp) ⟨⟨_, rfl, rfl, ?_⟩, ⟨_, rfl, rfl, ?_⟩, trivial⟩
   ·
    refine id (op_mark (zs := [(b8 (106#8)), (b8 (111#8)), (b8 (98#8))]) 0 rfl Tryd.underlying29 Tryd.underlying5 sd sd rfl rfl rfl rfl rfl rfl ?_)
    refine D_on [1, 2] rfl ?_
    refine D_one 4 _ rfl kr rfl (op_cn (fun w hw => r8eight_f jid w (hok_nil w) ) (enters_of Tryd.func13 kr rfl) rfl rfl rfl rfl rfl (fun t13 q14 => ?_))
    obtain ⟨B15, d16⟩ := t13
    refine D_on [2, 3] rfl ?_
    refine D_one 5 _ rfl kr rfl (op_app_old (zs := [106#8, 111#8, 98#8]) (news := (lowb jid 8)) (src_old 1 rfl) sd sd Tryd.underlying29 kr (src_row 0 rfl) sd sd rfl rfl rfl rfl rfl (fun A17 C18 => ?_))
    refine T_as 0 _ (.row (.slice A17 11 C18) 5 1 11 (([106#8, 111#8, 98#8] ++ (lowb jid 8)).map b8)) rfl rfl ?_
    refine T_slot 10 (.slice A17 (3 + 8) C18) (.slice A17 11 C18) rfl rfl ?_
    refine D_past kr ?_
    refine D_one 6 _ rfl kr rfl (op_cn (fun w hw => rkey_f [] none 0 0 job (some ⟨g1, 0, none⟩) 32 32 ([106#8, 111#8, 98#8] ++ (lowb jid 8)) A17 11 C18 w (hok_cons ((src_nil 1) w hw) (hok_cons ((src_full (z := 1) 4 rfl sd sd sd) w hw) (hok_cons ((src_row 0 rfl) w hw) (hok_nil w)))) (by first | assumption | omega | (simp; done) | (simp; omega)) sd (by first | assumption | omega | (simp; done) | (simp; omega)) sd (by rw [inf_one]; exact hil) sd) (enters_of Tryd.func12 kr rfl) rfl rfl rfl rfl rfl (fun t19 q20 => ?_))
    refine T_slot 11 _ (.agg ((kof job ([106#8, 111#8, 98#8] ++ eights [jid])).map b8).toArray) rfl (by rw [inf_one, kof_def]) ?_
    refine D_past kr ?_
    refine D_one 7 _ rfl kr rfl (op_sto (n := 32) (vs := ((kof job ([106#8, 111#8, 98#8] ++ eights [jid])).map b8)) 3 rfl rfl kr (all8_one _) kr sd rfl rfl rfl rfl ?_)
    refine D_past kr ?_
    refine D_done kr ?_
    exact T_meet () trivial (sc rfl sn) [0, 4] ⟨by decide, rfl⟩
   ·
    refine id (op_cn (fun w hw => r8eight_f jid w (hok_nil w) ) (enters_of Tryd.func13 kr rfl) rfl rfl rfl rfl rfl (fun t21 q22 => ?_))
    obtain ⟨B23, d24⟩ := t21
    refine D_on [2, 3] rfl ?_
    refine D_one 2 _ rfl kr rfl (op_mark (zs := [(b8 (106#8)), (b8 (111#8)), (b8 (98#8))]) 1 rfl Tryd.underlying29 Tryd.underlying5 sd sd rfl rfl rfl rfl rfl rfl ?_)
    refine D_on [2, 3] rfl ?_
    refine D_one 5 _ rfl kr rfl (op_app_old (zs := [106#8, 111#8, 98#8]) (news := (lowb jid 8)) (src_old 0 rfl) sd sd Tryd.underlying29 kr (src_row 1 rfl) sd sd rfl rfl rfl rfl rfl (fun A25 C26 => ?_))
    refine T_as 0 _ (.row (.slice A25 11 C26) 5 1 11 (([106#8, 111#8, 98#8] ++ (lowb jid 8)).map b8)) rfl rfl ?_
    refine T_slot 10 (.slice A25 (3 + 8) C26) (.slice A25 11 C26) rfl rfl ?_
    refine D_past kr ?_
    refine D_one 6 _ rfl kr rfl (op_cn (fun w hw => rkey_f [] none 0 0 job (some ⟨g1, 0, none⟩) 32 32 ([106#8, 111#8, 98#8] ++ (lowb jid 8)) A25 11 C26 w (hok_cons ((src_nil 1) w hw) (hok_cons ((src_full (z := 1) 4 rfl sd sd sd) w hw) (hok_cons ((src_row 0 rfl) w hw) (hok_nil w)))) (by first | assumption | omega | (simp; done) | (simp; omega)) sd (by first | assumption | omega | (simp; done) | (simp; omega)) sd (by rw [inf_one]; exact hil) sd) (enters_of Tryd.func12 kr rfl) rfl rfl rfl rfl rfl (fun t27 q28 => ?_))
    refine T_slot 11 _ (.agg ((kof job ([106#8, 111#8, 98#8] ++ eights [jid])).map b8).toArray) rfl (by rw [inf_one, kof_def]) ?_
    refine D_past kr ?_
    refine D_one 7 _ rfl kr rfl (op_sto (n := 32) (vs := ((kof job ([106#8, 111#8, 98#8] ++ eights [jid])).map b8)) 3 rfl rfl kr (all8_one _) kr sd rfl rfl rfl rfl ?_)
    refine D_past kr ?_
    refine D_done kr ?_
    exact T_meet () trivial (sc rfl sn) [0, 4] ⟨by decide, rfl⟩
  ·
   refine id (op_cn (fun w hw => r8eight_f jid w (hok_nil w) ) (enters_of Tryd.func13 kr rfl) rfl rfl rfl rfl rfl (fun t29 q30 => ?_))
   obtain ⟨B31, d32⟩ := t29
   refine D_on [1, 2] rfl ?_
   refine D_one 1 _ rfl kr rfl (op_bslice (e := 5) (zs := [(b8 (106#8)), (b8 (111#8)), (b8 (98#8))]) (qs := [(0, (b8 (106#8))), (1, (b8 (111#8))), (2, (b8 (98#8)))]) (fun _ => by kernel_rfl) rfl rfl rfl rfl (fun g33 => ?_))
   refine D_on [2, 3] rfl ?_
   refine D_one 2 _ rfl kr rfl (op_mark (zs := [(b8 (106#8)), (b8 (111#8)), (b8 (98#8))]) 0 rfl Tryd.underlying29 Tryd.underlying5 sd sd rfl rfl rfl rfl rfl rfl ?_)
   refine D_on [2, 3] rfl ?_
   refine D_one 5 _ rfl kr rfl (op_app_old (zs := [106#8, 111#8, 98#8]) (news := (lowb jid 8)) (src_old 0 rfl) sd sd Tryd.underlying29 kr (src_row 1 rfl) sd sd rfl rfl rfl rfl rfl (fun A34 C35 => ?_))
   refine T_as 0 _ (.row (.slice A34 11 C35) 5 1 11 (([106#8, 111#8, 98#8] ++ (lowb jid 8)).map b8)) rfl rfl ?_
   refine T_slot 10 (.slice A34 (3 + 8) C35) (.slice A34 11 C35) rfl rfl ?_
   refine D_past kr ?_
   refine D_one 6 _ rfl kr rfl (op_cn (fun w hw => rkey_f [] none 0 0 job (some ⟨g1, 0, none⟩) 32 32 ([106#8, 111#8, 98#8] ++ (lowb jid 8)) A34 11 C35 w (hok_cons ((src_nil 1) w hw) (hok_cons ((src_full (z := 1) 4 rfl sd sd sd) w hw) (hok_cons ((src_row 0 rfl) w hw) (hok_nil w)))) (by first | assumption | omega | (simp; done) | (simp; omega)) sd (by first | assumption | omega | (simp; done) | (simp; omega)) sd (by rw [inf_one]; exact hil) sd) (enters_of Tryd.func12 kr rfl) rfl rfl rfl rfl rfl (fun t36 q37 => ?_))
   refine T_slot 11 _ (.agg ((kof job ([106#8, 111#8, 98#8] ++ eights [jid])).map b8).toArray) rfl (by rw [inf_one, kof_def]) ?_
   refine D_past kr ?_
   refine D_one 7 _ rfl kr rfl (op_sto (n := 32) (vs := ((kof job ([106#8, 111#8, 98#8] ++ eights [jid])).map b8)) 3 rfl rfl kr (all8_one _) kr sd rfl rfl rfl rfl ?_)
   refine D_past kr ?_
   refine D_done kr ?_
   exact T_meet () trivial (sc rfl sn) [0, 4] ⟨by decide, rfl⟩
 ·
  rintro ⟨⟩ -
  refine T_re [(4, (.pointer (some ⟨g2, 0, none⟩)))] (sc rfl sn) ?_
  refine T_he [0, 1] [.blk g2 34 ((kof job ([106#8, 111#8, 98#8] ++ eights [jid])).map b8), .blk g1 34 (job.map b8)] ⟨by decide, rfl⟩ ?_
  refine T_ret ?_
  exact T_fin () (by first | trivial | omega | (simp; done)) (resb 0 rfl rfl rfl Tryd.underlying34 rfl (fwz (n := 32) kr sd)) [] ⟨by decide, rfl⟩ rfl
set_option maxHeartbeats 4000000 in
theorem rplace8_f (job : List (BitVec 8)) (pp : BitVec 64) (pr : BitVec 64) (pa : BitVec 64) (pt : BitVec 64) (pi : BitVec 64) (w : World) (hO : HOK [] w) (hj : job.length = 32) : Calls Tryd.prog 20 [(.agg (job.map b8).toArray), (.agg [(.int .i64 (i64 pp)), (.int .i64 (i64 pr)), (.int .i64 (i64 pa)), (b64 pt), (.int .i64 (i64 pi))].toArray)].toArray w (Ret (T := Unit) [] w (fun _ => True) (fun _ => (.agg ((kof job ([112#8, 108#8, 97#8, 99#8, 101#8] ++ eights [pp, pr, pa])).map b8).toArray)) (fun _ => [])) := by
 have hil : (([112#8, 108#8, 97#8, 99#8, 101#8] ++ eights [pp, pr, pa])).length = 29 := by rw [List.length_append, eights_three]; rfl
 have hkl := kof_len job ([112#8, 108#8, 97#8, 99#8, 101#8] ++ eights [pp, pr, pa])
 have hF : Wid Fence.wide := wid_wide
 refine enter (c := _) Tryd.func20 rfl [] _ [] (by rw [Tryd.ntmps20]; rfl) (own_rds hO rfl) ?_
 rw [Tryd.ntmps20]
 refine T_re [(0, (.agg (job.map b8).toArray)), (1, (.agg [(.int .i64 (i64 pp)), (.int .i64 (i64 pr)), (.int .i64 (i64 pa)), (b64 pt), (.int .i64 (i64 pi))].toArray))] (sc rfl (sc rfl sn)) ?_
 refine T_he [] [] ⟨by decide, rfl⟩ ?_
 refine Tsr hF rfl ?_
 refine L_op rfl (op_box (zs := (job.map b8)) rfl rfl rfl rfl rfl (fun g1 => ?_))
 refine L_op rfl (op_box (zs := [(.int .i64 (i64 pp)), (.int .i64 (i64 pr)), (.int .i64 (i64 pa)), (b64 pt), (.int .i64 (i64 pi))]) rfl rfl rfl rfl rfl (fun g2 => ?_))
 refine L_op rfl (op_alloc (z := .agg ((List.replicate 32 0#8).map b8).toArray) (zs := ((List.replicate 32 0#8).map b8)) kr rfl rfl rfl rfl (fun g3 => ?_))
 refine L_nil ?_
 refine T_seq ?_
 refine T_regD [.blk g3 34 ((List.replicate 32 0#8).map b8), .blk g2 24 [(.int .i64 (i64 pp)), (.int .i64 (i64 pr)), (.int .i64 (i64 pa)), (b64 pt), (.int .i64 (i64 pi))], .blk g1 34 (job.map b8)] 14 17 #[false, false, false, false, false, false, false, false, false, false, false, false, false, false, false, false, false] hF kr kr ?_
 refine D_pure (i := 0) [0, 1, 2] rfl kr rfl (pr_sla (l := 0) (u := 32) (m := 0) sd sd sd rfl Tryd.underlying34 (z := 1) kr rfl rfl rfl rfl) (.inr rfl) rfl rfl ?_
 refine D_pure (i := 3) [0, 1, 2] rfl kr rfl (pr_fa (m := 0) (m' := 0) (z := 0) (by rfl) Tryd.underlying24 rfl kr rfl rfl) (.inr rfl) rfl rfl ?_
 refine D_pure (i := 6) [0, 1, 2] rfl kr rfl (pr_fa (m := 0) (m' := 1) (z := 0) (by rfl) Tryd.underlying24 rfl kr rfl rfl) (.inr rfl) rfl rfl ?_
 refine D_pure (i := 9) [0, 1, 2] rfl kr rfl (pr_fa (m := 0) (m' := 2) (z := 0) (by rfl) Tryd.underlying24 rfl kr rfl rfl) (.inr rfl) rfl rfl ?_
 refine D_take (i := 4) [0, 1, 2] rfl kr rfl (ld_blk 1 rfl rfl Tryd.underlying3 rfl rfl rfl) rfl rfl rfl ?_
 refine D_pure (i := 5) [0, 1, 2] rfl kr rfl (pr_cv (zc_i64u pp) Tryd.underlying3 Tryd.underlying22 rfl rfl) (.inr rfl) rfl rfl ?_
 refine D_take (i := 7) [0, 1, 2] rfl kr rfl (ld_blk 1 rfl rfl Tryd.underlying3 rfl rfl rfl) rfl rfl rfl ?_
 refine D_pure (i := 8) [0, 1, 2] rfl kr rfl (pr_cv (zc_i64u pr) Tryd.underlying3 Tryd.underlying22 rfl rfl) (.inr rfl) rfl rfl ?_
 refine D_take (i := 10) [0, 1, 2] rfl kr rfl (ld_blk 1 rfl rfl Tryd.underlying3 rfl rfl rfl) rfl rfl rfl ?_
 refine D_pure (i := 11) [0, 1, 2] rfl kr rfl (pr_cv (zc_i64u pa) Tryd.underlying3 Tryd.underlying22 rfl rfl) (.inr rfl) rfl rfl ?_
 refine D_join (T := Unit) (fun _ => True) (fun _ => [(4, (.pointer (some ⟨g3, 0, none⟩)))]) (fun _ => [.blk g3 34 ((kof job ([112#8, 108#8, 97#8, 99#8, 101#8] ++ eights [pp, pr, pa])).map b8), .blk g2 24 [(.int .i64 (i64 pp)), (.int .i64 (i64 pr)), (.int .i64 (i64 pa)), (b64 pt), (.int .i64 (i64 pi))], .blk g1 34 (job.map b8)]) ?_ ?_
 ·
  refine D_all [1, 12] kr (by simp) ⟨⟨_, rfl, rfl, ?_⟩, ⟨_, rfl, rfl, ?_⟩, trivial⟩
  ·
   refine id (op_bslice (e := 5) (zs := [(b8 (112#8)), (b8 (108#8)), (b8 (97#8)), (b8 (99#8)), (b8 (101#8))]) (qs := [(0, (b8 (112#8))), (1, (b8 (108#8))), (2, (b8 (97#8))), (3, (b8 (99#8))), (4, (b8 (101#8)))]) (fun _ => by kernel_rfl) rfl rfl rfl rfl (fun g14 => ?_))
   refine D_on [1, 2, 3] rfl ?_
   refine D_all [2, 12] kr (by simp) ⟨⟨_, rfl, rfl, ?_⟩, ⟨_, rfl, rfl, ?_⟩, trivial⟩
   ·
    refine id (op_mark (zs := [(b8 (112#8)), (b8 (108#8)), (b8 (97#8)), (b8 (99#8)), (b8 (101#8))]) 0 rfl Tryd.underlying29 Tryd.underlying5 sd sd rfl rfl rfl rfl rfl rfl ?_)
    refine D_on [1, 2, 3] rfl ?_
    refine D_one 12 _ rfl kr rfl (op_bslice (e := 22) (zs := [(b64 pp), (b64 pr), (b64 pa)]) (qs := [(0, (b64 pp)), (1, (b64 pr)), (2, (b64 pa))]) (fun _ => by kernel_rfl) rfl rfl rfl rfl (fun g15 => ?_))
    refine D_on [2, 3, 4] rfl ?_
    refine D_one 13 _ rfl kr rfl (op_cn (fun w hw => r8eights_f [pp, pr, pa] (some ⟨g15, 0, none⟩) 3 3 w (hok_cons ((src_full (z := 1) 0 rfl rfl sd sd) w hw) (hok_nil w)) sd sd) (enters_of Tryd.func34 kr rfl) rfl rfl rfl rfl rfl (fun t16 q17 => ?_))
    obtain ⟨B18, d19⟩ := t16
    refine T_slot 18 (.slice B18 (8 * 3) d19) (.slice B18 24 d19) rfl (by congr 1) ?_
    refine T_as 0 _ (.row (.slice B18 24 d19) 5 1 24 ((eights [pp, pr, pa]).map b8)) rfl (rfl) ?_
    refine D_on [3, 4, 5] rfl ?_
    refine D_one 14 _ rfl kr rfl (op_app_old (zs := [112#8, 108#8, 97#8, 99#8, 101#8]) (news := (eights [pp, pr, pa])) (src_old 2 rfl) sd sd Tryd.underlying29 kr (src_row 0 rfl) sd sd rfl rfl rfl rfl rfl (fun A20 C21 => ?_))
    refine T_as 0 _ (.row (.slice A20 29 C21) 5 1 29 (([112#8, 108#8, 97#8, 99#8, 101#8] ++ (eights [pp, pr, pa])).map b8)) rfl rfl ?_
    refine T_slot 19 (.slice A20 (5 + 24) C21) (.slice A20 29 C21) rfl rfl ?_
    refine D_past kr ?_
    refine D_one 15 _ rfl kr rfl (op_cn (fun w hw => rkey_f [] none 0 0 job (some ⟨g1, 0, none⟩) 32 32 ([112#8, 108#8, 97#8, 99#8, 101#8] ++ (eights [pp, pr, pa])) A20 29 C21 w (hok_cons ((src_nil 1) w hw) (hok_cons ((src_full (z := 1) 6 rfl sd sd sd) w hw) (hok_cons ((src_row 0 rfl) w hw) (hok_nil w)))) (by first | assumption | omega | (simp; done) | (simp; omega)) sd (by first | assumption | omega | (simp; done) | (simp; omega)) sd hil sd) (enters_of Tryd.func12 kr rfl) rfl rfl rfl rfl rfl (fun t22 q23 => ?_))
    refine T_slot 20 _ (.agg ((kof job ([112#8, 108#8, 97#8, 99#8, 101#8] ++ eights [pp, pr, pa])).map b8).toArray) rfl (by rw [kof_def]) ?_
    refine D_past kr ?_
    refine D_one 16 _ rfl kr rfl (op_sto (n := 32) (vs := ((kof job ([112#8, 108#8, 97#8, 99#8, 101#8] ++ eights [pp, pr, pa])).map b8)) 4 rfl rfl kr (all8_one _) kr sd rfl rfl rfl rfl ?_)
    refine D_past kr ?_
    refine D_done kr ?_
    exact T_meet () trivial (sc rfl sn) [0, 5, 6] ⟨by decide, rfl⟩
   ·
    refine id (op_bslice (e := 22) (zs := [(b64 pp), (b64 pr), (b64 pa)]) (qs := [(0, (b64 pp)), (1, (b64 pr)), (2, (b64 pa))]) (fun _ => by kernel_rfl) rfl rfl rfl rfl (fun g24 => ?_))
    refine D_on [2, 3, 4] rfl ?_
    refine D_all [2, 13] kr (by simp) ⟨⟨_, rfl, rfl, ?_⟩, ⟨_, rfl, rfl, ?_⟩, trivial⟩
    ·
     refine id (op_mark (zs := [(b8 (112#8)), (b8 (108#8)), (b8 (97#8)), (b8 (99#8)), (b8 (101#8))]) 1 rfl Tryd.underlying29 Tryd.underlying5 sd sd rfl rfl rfl rfl rfl rfl ?_)
     refine D_on [2, 3, 4] rfl ?_
     refine D_one 13 _ rfl kr rfl (op_cn (fun w hw => r8eights_f [pp, pr, pa] (some ⟨g24, 0, none⟩) 3 3 w (hok_cons ((src_full (z := 1) 1 rfl rfl sd sd) w hw) (hok_nil w)) sd sd) (enters_of Tryd.func34 kr rfl) rfl rfl rfl rfl rfl (fun t25 q26 => ?_))
     obtain ⟨B27, d28⟩ := t25
     refine T_slot 18 (.slice B27 (8 * 3) d28) (.slice B27 24 d28) rfl (by congr 1) ?_
     refine T_as 0 _ (.row (.slice B27 24 d28) 5 1 24 ((eights [pp, pr, pa]).map b8)) rfl (rfl) ?_
     refine D_on [3, 4, 5] rfl ?_
     refine D_one 14 _ rfl kr rfl (op_app_old (zs := [112#8, 108#8, 97#8, 99#8, 101#8]) (news := (eights [pp, pr, pa])) (src_old 1 rfl) sd sd Tryd.underlying29 kr (src_row 0 rfl) sd sd rfl rfl rfl rfl rfl (fun A29 C30 => ?_))
     refine T_as 0 _ (.row (.slice A29 29 C30) 5 1 29 (([112#8, 108#8, 97#8, 99#8, 101#8] ++ (eights [pp, pr, pa])).map b8)) rfl rfl ?_
     refine T_slot 19 (.slice A29 (5 + 24) C30) (.slice A29 29 C30) rfl rfl ?_
     refine D_past kr ?_
     refine D_one 15 _ rfl kr rfl (op_cn (fun w hw => rkey_f [] none 0 0 job (some ⟨g1, 0, none⟩) 32 32 ([112#8, 108#8, 97#8, 99#8, 101#8] ++ (eights [pp, pr, pa])) A29 29 C30 w (hok_cons ((src_nil 1) w hw) (hok_cons ((src_full (z := 1) 6 rfl sd sd sd) w hw) (hok_cons ((src_row 0 rfl) w hw) (hok_nil w)))) (by first | assumption | omega | (simp; done) | (simp; omega)) sd (by first | assumption | omega | (simp; done) | (simp; omega)) sd hil sd) (enters_of Tryd.func12 kr rfl) rfl rfl rfl rfl rfl (fun t31 q32 => ?_))
     refine T_slot 20 _ (.agg ((kof job ([112#8, 108#8, 97#8, 99#8, 101#8] ++ eights [pp, pr, pa])).map b8).toArray) rfl (by rw [kof_def]) ?_
     refine D_past kr ?_
     refine D_one 16 _ rfl kr rfl (op_sto (n := 32) (vs := ((kof job ([112#8, 108#8, 97#8, 99#8, 101#8] ++ eights [pp, pr, pa])).map b8)) 4 rfl rfl kr (all8_one _) kr sd rfl rfl rfl rfl ?_)
     refine D_past kr ?_
     refine D_done kr ?_
     exact T_meet () trivial (sc rfl sn) [0, 5, 6] ⟨by decide, rfl⟩
    ·
     refine id (op_cn (fun w hw => r8eights_f [pp, pr, pa] (some ⟨g24, 0, none⟩) 3 3 w (hok_cons ((src_full (z := 1) 0 rfl rfl sd sd) w hw) (hok_nil w)) sd sd) (enters_of Tryd.func34 kr rfl) rfl rfl rfl rfl rfl (fun t33 q34 => ?_))
     obtain ⟨B35, d36⟩ := t33
     refine T_slot 18 (.slice B35 (8 * 3) d36) (.slice B35 24 d36) rfl (by congr 1) ?_
     refine T_as 0 _ (.row (.slice B35 24 d36) 5 1 24 ((eights [pp, pr, pa]).map b8)) rfl (rfl) ?_
     refine D_on [3, 4, 5] rfl ?_
     refine D_one 2 _ rfl kr rfl (op_mark (zs := [(b8 (112#8)), (b8 (108#8)), (b8 (97#8)), (b8 (99#8)), (b8 (101#8))]) 2 rfl Tryd.underlying29 Tryd.underlying5 sd sd rfl rfl rfl rfl rfl rfl ?_)
     refine D_on [3, 4, 5] rfl ?_
     refine D_one 14 _ rfl kr rfl (op_app_old (zs := [112#8, 108#8, 97#8, 99#8, 101#8]) (news := (eights [pp, pr, pa])) (src_old 0 rfl) sd sd Tryd.underlying29 kr (src_row 1 rfl) sd sd rfl rfl rfl rfl rfl (fun A37 C38 => ?_))
     refine T_as 0 _ (.row (.slice A37 29 C38) 5 1 29 (([112#8, 108#8, 97#8, 99#8, 101#8] ++ (eights [pp, pr, pa])).map b8)) rfl rfl ?_
     refine T_slot 19 (.slice A37 (5 + 24) C38) (.slice A37 29 C38) rfl rfl ?_
     refine D_past kr ?_
     refine D_one 15 _ rfl kr rfl (op_cn (fun w hw => rkey_f [] none 0 0 job (some ⟨g1, 0, none⟩) 32 32 ([112#8, 108#8, 97#8, 99#8, 101#8] ++ (eights [pp, pr, pa])) A37 29 C38 w (hok_cons ((src_nil 1) w hw) (hok_cons ((src_full (z := 1) 6 rfl sd sd sd) w hw) (hok_cons ((src_row 0 rfl) w hw) (hok_nil w)))) (by first | assumption | omega | (simp; done) | (simp; omega)) sd (by first | assumption | omega | (simp; done) | (simp; omega)) sd hil sd) (enters_of Tryd.func12 kr rfl) rfl rfl rfl rfl rfl (fun t39 q40 => ?_))
     refine T_slot 20 _ (.agg ((kof job ([112#8, 108#8, 97#8, 99#8, 101#8] ++ eights [pp, pr, pa])).map b8).toArray) rfl (by rw [kof_def]) ?_
     refine D_past kr ?_
     refine D_one 16 _ rfl kr rfl (op_sto (n := 32) (vs := ((kof job ([112#8, 108#8, 97#8, 99#8, 101#8] ++ eights [pp, pr, pa])).map b8)) 4 rfl rfl kr (all8_one _) kr sd rfl rfl rfl rfl ?_)
     refine D_past kr ?_
     refine D_done kr ?_
     exact T_meet () trivial (sc rfl sn) [0, 5, 6] ⟨by decide, rfl⟩
  ·
   refine id (op_bslice (e := 22) (zs := [(b64 pp), (b64 pr), (b64 pa)]) (qs := [(0, (b64 pp)), (1, (b64 pr)), (2, (b64 pa))]) (fun _ => by kernel_rfl) rfl rfl rfl rfl (fun g41 => ?_))
   refine D_on [1, 2, 3] rfl ?_
   refine D_all [1, 13] kr (by simp) ⟨⟨_, rfl, rfl, ?_⟩, ⟨_, rfl, rfl, ?_⟩, trivial⟩
   ·
    refine id (op_bslice (e := 5) (zs := [(b8 (112#8)), (b8 (108#8)), (b8 (97#8)), (b8 (99#8)), (b8 (101#8))]) (qs := [(0, (b8 (112#8))), (1, (b8 (108#8))), (2, (b8 (97#8))), (3, (b8 (99#8))), (4, (b8 (101#8)))]) (fun _ => by kernel_rfl) rfl rfl rfl rfl (fun g42 => ?_))
    refine D_on [2, 3, 4] rfl ?_
    refine D_all [2, 13] kr (by simp) ⟨⟨_, rfl, rfl, ?_⟩, ⟨_, rfl, rfl, ?_⟩, trivial⟩
    ·
     refine id (op_mark (zs := [(b8 (112#8)), (b8 (108#8)), (b8 (97#8)), (b8 (99#8)), (b8 (101#8))]) 0 rfl Tryd.underlying29 Tryd.underlying5 sd sd rfl rfl rfl rfl rfl rfl ?_)
     refine D_on [2, 3, 4] rfl ?_
     refine D_one 13 _ rfl kr rfl (op_cn (fun w hw => r8eights_f [pp, pr, pa] (some ⟨g41, 0, none⟩) 3 3 w (hok_cons ((src_full (z := 1) 1 rfl rfl sd sd) w hw) (hok_nil w)) sd sd) (enters_of Tryd.func34 kr rfl) rfl rfl rfl rfl rfl (fun t43 q44 => ?_))
     obtain ⟨B45, d46⟩ := t43
     refine T_slot 18 (.slice B45 (8 * 3) d46) (.slice B45 24 d46) rfl (by congr 1) ?_
     refine T_as 0 _ (.row (.slice B45 24 d46) 5 1 24 ((eights [pp, pr, pa]).map b8)) rfl (rfl) ?_
     refine D_on [3, 4, 5] rfl ?_
     refine D_one 14 _ rfl kr rfl (op_app_old (zs := [112#8, 108#8, 97#8, 99#8, 101#8]) (news := (eights [pp, pr, pa])) (src_old 1 rfl) sd sd Tryd.underlying29 kr (src_row 0 rfl) sd sd rfl rfl rfl rfl rfl (fun A47 C48 => ?_))
     refine T_as 0 _ (.row (.slice A47 29 C48) 5 1 29 (([112#8, 108#8, 97#8, 99#8, 101#8] ++ (eights [pp, pr, pa])).map b8)) rfl rfl ?_
     refine T_slot 19 (.slice A47 (5 + 24) C48) (.slice A47 29 C48) rfl rfl ?_
     refine D_past kr ?_
     refine D_one 15 _ rfl kr rfl (op_cn (fun w hw => rkey_f [] none 0 0 job (some ⟨g1, 0, none⟩) 32 32 ([112#8, 108#8, 97#8, 99#8, 101#8] ++ (eights [pp, pr, pa])) A47 29 C48 w (hok_cons ((src_nil 1) w hw) (hok_cons ((src_full (z := 1) 6 rfl sd sd sd) w hw) (hok_cons ((src_row 0 rfl) w hw) (hok_nil w)))) (by first | assumption | omega | (simp; done) | (simp; omega)) sd (by first | assumption | omega | (simp; done) | (simp; omega)) sd hil sd) (enters_of Tryd.func12 kr rfl) rfl rfl rfl rfl rfl (fun t49 q50 => ?_))
     refine T_slot 20 _ (.agg ((kof job ([112#8, 108#8, 97#8, 99#8, 101#8] ++ eights [pp, pr, pa])).map b8).toArray) rfl (by rw [kof_def]) ?_
     refine D_past kr ?_
     refine D_one 16 _ rfl kr rfl (op_sto (n := 32) (vs := ((kof job ([112#8, 108#8, 97#8, 99#8, 101#8] ++ eights [pp, pr, pa])).map b8)) 4 rfl rfl kr (all8_one _) kr sd rfl rfl rfl rfl ?_)
     refine D_past kr ?_
     refine D_done kr ?_
     exact T_meet () trivial (sc rfl sn) [0, 5, 6] ⟨by decide, rfl⟩
    ·
     refine id (op_cn (fun w hw => r8eights_f [pp, pr, pa] (some ⟨g41, 0, none⟩) 3 3 w (hok_cons ((src_full (z := 1) 1 rfl rfl sd sd) w hw) (hok_nil w)) sd sd) (enters_of Tryd.func34 kr rfl) rfl rfl rfl rfl rfl (fun t51 q52 => ?_))
     obtain ⟨B53, d54⟩ := t51
     refine T_slot 18 (.slice B53 (8 * 3) d54) (.slice B53 24 d54) rfl (by congr 1) ?_
     refine T_as 0 _ (.row (.slice B53 24 d54) 5 1 24 ((eights [pp, pr, pa]).map b8)) rfl (rfl) ?_
     refine D_on [3, 4, 5] rfl ?_
     refine D_one 2 _ rfl kr rfl (op_mark (zs := [(b8 (112#8)), (b8 (108#8)), (b8 (97#8)), (b8 (99#8)), (b8 (101#8))]) 1 rfl Tryd.underlying29 Tryd.underlying5 sd sd rfl rfl rfl rfl rfl rfl ?_)
     refine D_on [3, 4, 5] rfl ?_
     refine D_one 14 _ rfl kr rfl (op_app_old (zs := [112#8, 108#8, 97#8, 99#8, 101#8]) (news := (eights [pp, pr, pa])) (src_old 0 rfl) sd sd Tryd.underlying29 kr (src_row 1 rfl) sd sd rfl rfl rfl rfl rfl (fun A55 C56 => ?_))
     refine T_as 0 _ (.row (.slice A55 29 C56) 5 1 29 (([112#8, 108#8, 97#8, 99#8, 101#8] ++ (eights [pp, pr, pa])).map b8)) rfl rfl ?_
     refine T_slot 19 (.slice A55 (5 + 24) C56) (.slice A55 29 C56) rfl rfl ?_
     refine D_past kr ?_
     refine D_one 15 _ rfl kr rfl (op_cn (fun w hw => rkey_f [] none 0 0 job (some ⟨g1, 0, none⟩) 32 32 ([112#8, 108#8, 97#8, 99#8, 101#8] ++ (eights [pp, pr, pa])) A55 29 C56 w (hok_cons ((src_nil 1) w hw) (hok_cons ((src_full (z := 1) 6 rfl sd sd sd) w hw) (hok_cons ((src_row 0 rfl) w hw) (hok_nil w)))) (by first | assumption | omega | (simp; done) | (simp; omega)) sd (by first | assumption | omega | (simp; done) | (simp; omega)) sd hil sd) (enters_of Tryd.func12 kr rfl) rfl rfl rfl rfl rfl (fun t57 q58 => ?_))
     refine T_slot 20 _ (.agg ((kof job ([112#8, 108#8, 97#8, 99#8, 101#8] ++ eights [pp, pr, pa])).map b8).toArray) rfl (by rw [kof_def]) ?_
     refine D_past kr ?_
     refine D_one 16 _ rfl kr rfl (op_sto (n := 32) (vs := ((kof job ([112#8, 108#8, 97#8, 99#8, 101#8] ++ eights [pp, pr, pa])).map b8)) 4 rfl rfl kr (all8_one _) kr sd rfl rfl rfl rfl ?_)
     refine D_past kr ?_
     refine D_done kr ?_
     exact T_meet () trivial (sc rfl sn) [0, 5, 6] ⟨by decide, rfl⟩
   ·
    refine id (op_cn (fun w hw => r8eights_f [pp, pr, pa] (some ⟨g41, 0, none⟩) 3 3 w (hok_cons ((src_full (z := 1) 0 rfl rfl sd sd) w hw) (hok_nil w)) sd sd) (enters_of Tryd.func34 kr rfl) rfl rfl rfl rfl rfl (fun t59 q60 => ?_))
    obtain ⟨B61, d62⟩ := t59
    refine T_slot 18 (.slice B61 (8 * 3) d62) (.slice B61 24 d62) rfl (by congr 1) ?_
    refine T_as 0 _ (.row (.slice B61 24 d62) 5 1 24 ((eights [pp, pr, pa]).map b8)) rfl (rfl) ?_
    refine D_on [2, 3, 4] rfl ?_
    refine D_one 1 _ rfl kr rfl (op_bslice (e := 5) (zs := [(b8 (112#8)), (b8 (108#8)), (b8 (97#8)), (b8 (99#8)), (b8 (101#8))]) (qs := [(0, (b8 (112#8))), (1, (b8 (108#8))), (2, (b8 (97#8))), (3, (b8 (99#8))), (4, (b8 (101#8)))]) (fun _ => by kernel_rfl) rfl rfl rfl rfl (fun g63 => ?_))
    refine D_on [3, 4, 5] rfl ?_
    refine D_one 2 _ rfl kr rfl (op_mark (zs := [(b8 (112#8)), (b8 (108#8)), (b8 (97#8)), (b8 (99#8)), (b8 (101#8))]) 0 rfl Tryd.underlying29 Tryd.underlying5 sd sd rfl rfl rfl rfl rfl rfl ?_)
    refine D_on [3, 4, 5] rfl ?_
    refine D_one 14 _ rfl kr rfl (op_app_old (zs := [112#8, 108#8, 97#8, 99#8, 101#8]) (news := (eights [pp, pr, pa])) (src_old 0 rfl) sd sd Tryd.underlying29 kr (src_row 1 rfl) sd sd rfl rfl rfl rfl rfl (fun A64 C65 => ?_))
    refine T_as 0 _ (.row (.slice A64 29 C65) 5 1 29 (([112#8, 108#8, 97#8, 99#8, 101#8] ++ (eights [pp, pr, pa])).map b8)) rfl rfl ?_
    refine T_slot 19 (.slice A64 (5 + 24) C65) (.slice A64 29 C65) rfl rfl ?_
    refine D_past kr ?_
    refine D_one 15 _ rfl kr rfl (op_cn (fun w hw => rkey_f [] none 0 0 job (some ⟨g1, 0, none⟩) 32 32 ([112#8, 108#8, 97#8, 99#8, 101#8] ++ (eights [pp, pr, pa])) A64 29 C65 w (hok_cons ((src_nil 1) w hw) (hok_cons ((src_full (z := 1) 6 rfl sd sd sd) w hw) (hok_cons ((src_row 0 rfl) w hw) (hok_nil w)))) (by first | assumption | omega | (simp; done) | (simp; omega)) sd (by first | assumption | omega | (simp; done) | (simp; omega)) sd hil sd) (enters_of Tryd.func12 kr rfl) rfl rfl rfl rfl rfl (fun t66 q67 => ?_))
    refine T_slot 20 _ (.agg ((kof job ([112#8, 108#8, 97#8, 99#8, 101#8] ++ eights [pp, pr, pa])).map b8).toArray) rfl (by rw [kof_def]) ?_
    refine D_past kr ?_
    refine D_one 16 _ rfl kr rfl (op_sto (n := 32) (vs := ((kof job ([112#8, 108#8, 97#8, 99#8, 101#8] ++ eights [pp, pr, pa])).map b8)) 4 rfl rfl kr (all8_one _) kr sd rfl rfl rfl rfl ?_)
    refine D_past kr ?_
    refine D_done kr ?_
    exact T_meet () trivial (sc rfl sn) [0, 5, 6] ⟨by decide, rfl⟩
 ·
  rintro ⟨⟩ -
  refine T_re [(4, (.pointer (some ⟨g3, 0, none⟩)))] (sc rfl sn) ?_
  refine T_he [0, 1, 2] [.blk g3 34 ((kof job ([112#8, 108#8, 97#8, 99#8, 101#8] ++ eights [pp, pr, pa])).map b8), .blk g2 24 [(.int .i64 (i64 pp)), (.int .i64 (i64 pr)), (.int .i64 (i64 pa)), (b64 pt), (.int .i64 (i64 pi))], .blk g1 34 (job.map b8)] ⟨by decide, rfl⟩ ?_
  refine T_ret ?_
  exact T_fin () (by first | trivial | omega | (simp; done)) (resb 0 rfl rfl rfl Tryd.underlying34 rfl (fwz (n := 32) kr sd)) [] ⟨by decide, rfl⟩ rfl
set_option maxHeartbeats 4000000 in
theorem rsender_f (job : List (BitVec 8)) (fr : BitVec 64) (start : BitVec 64) (w : World) (hO : HOK [] w) (hj : job.length = 32) : Calls Tryd.prog 21 [(.agg (job.map b8).toArray), (.int .i64 (i64 fr)), (b64 start)].toArray w (Ret (T := Unit) [] w (fun _ => True) (fun _ => (.agg ((kof job ([115#8, 101#8, 110#8, 100#8, 101#8, 114#8] ++ eights [fr, start])).map b8).toArray)) (fun _ => [])) := by
 have hil : (([115#8, 101#8, 110#8, 100#8, 101#8, 114#8] ++ eights [fr, start])).length = 22 := by rw [List.length_append, eights_two]; rfl
 have hkl := kof_len job ([115#8, 101#8, 110#8, 100#8, 101#8, 114#8] ++ eights [fr, start])
 have hF : Wid Fence.wide := wid_wide
 refine enter (c := _) Tryd.func21 rfl [] _ [] (by rw [Tryd.ntmps21]; rfl) (own_rds hO rfl) ?_
 rw [Tryd.ntmps21]
 refine T_re [(0, (.agg (job.map b8).toArray)), (1, (.int .i64 (i64 fr))), (2, (b64 start))] (sc rfl (sc rfl (sc rfl sn))) ?_
 refine T_he [] [] ⟨by decide, rfl⟩ ?_
 refine Tsr hF rfl ?_
 refine L_op rfl (op_box (zs := (job.map b8)) rfl rfl rfl rfl rfl (fun g1 => ?_))
 refine L_op rfl (op_alloc (z := .agg ((List.replicate 32 0#8).map b8).toArray) (zs := ((List.replicate 32 0#8).map b8)) kr rfl rfl rfl rfl (fun g2 => ?_))
 refine L_nil ?_
 refine T_seq ?_
 refine T_regD [.blk g2 34 ((List.replicate 32 0#8).map b8), .blk g1 34 (job.map b8)] 8 11 #[false, false, false, false, false, false, false, false, false, false, false] hF kr kr ?_
 refine D_pure (i := 0) [0, 1] rfl kr rfl (pr_sla (l := 0) (u := 32) (m := 0) sd sd sd rfl Tryd.underlying34 (z := 1) kr rfl rfl rfl rfl) (.inr rfl) rfl rfl ?_
 refine D_pure (i := 3) [0, 1] rfl kr rfl (pr_move rfl rfl) (.inr rfl) rfl rfl ?_
 refine D_pure (i := 4) [0, 1] rfl kr rfl (pr_cv (zc_i64u fr) Tryd.underlying3 Tryd.underlying22 rfl rfl) (.inr rfl) rfl rfl ?_
 refine D_pure (i := 5) [0, 1] rfl kr rfl (pr_move rfl rfl) (.inr rfl) rfl rfl ?_
 refine D_join (T := Unit) (fun _ => True) (fun _ => [(6, (.pointer (some ⟨g2, 0, none⟩)))]) (fun _ => [.blk g2 34 ((kof job ([115#8, 101#8, 110#8, 100#8, 101#8, 114#8] ++ eights [fr, start])).map b8), .blk g1 34 (job.map b8)]) ?_ ?_
 ·
  refine D_all [1, 6] kr (by simp) ⟨⟨_, rfl, rfl, ?_⟩, ⟨_, rfl, rfl, ?_⟩, trivial⟩
  ·
   refine id (op_bslice (e := 5) (zs := [(b8 (115#8)), (b8 (101#8)), (b8 (110#8)), (b8 (100#8)), (b8 (101#8)), (b8 (114#8))]) (qs := [(0, (b8 (115#8))), (1, (b8 (101#8))), (2, (b8 (110#8))), (3, (b8 (100#8))), (4, (b8 (101#8))), (5, (b8 (114#8)))]) (fun _ => by kernel_rfl) rfl rfl rfl rfl (fun g13 => ?_))
   refine D_on [1, 2] rfl ?_
   refine D_all [2, 6] kr (by simp) ⟨⟨_, rfl, rfl, ?_⟩, ⟨_, rfl, rfl, ?_⟩, trivial⟩
   ·
    refine id (op_mark (zs := [(b8 (115#8)), (b8 (101#8)), (b8 (110#8)), (b8 (100#8)), (b8 (101#8)), (b8 (114#8))]) 0 rfl Tryd.underlying29 Tryd.underlying5 sd sd rfl rfl rfl rfl rfl rfl ?_)
    refine D_on [1, 2] rfl ?_
    refine D_one 6 _ rfl kr rfl (op_bslice (e := 22) (zs := [(b64 fr), (b64 start)]) (qs := [(0, (b64 fr)), (1, (b64 start))]) (fun _ => by kernel_rfl) rfl rfl rfl rfl (fun g14 => ?_))
    refine D_on [2, 3] rfl ?_
    refine D_one 7 _ rfl kr rfl (op_cn (fun w hw => r8eights_f [fr, start] (some ⟨g14, 0, none⟩) 2 2 w (hok_cons ((src_full (z := 1) 0 rfl rfl sd sd) w hw) (hok_nil w)) sd sd) (enters_of Tryd.func34 kr rfl) rfl rfl rfl rfl rfl (fun t15 q16 => ?_))
    obtain ⟨B17, d18⟩ := t15
    refine T_slot 14 (.slice B17 (8 * 2) d18) (.slice B17 16 d18) rfl (by congr 1) ?_
    refine T_as 0 _ (.row (.slice B17 16 d18) 5 1 16 ((eights [fr, start]).map b8)) rfl (rfl) ?_
    refine D_on [3, 4] rfl ?_
    refine D_one 8 _ rfl kr rfl (op_app_old (zs := [115#8, 101#8, 110#8, 100#8, 101#8, 114#8]) (news := (eights [fr, start])) (src_old 2 rfl) sd sd Tryd.underlying29 kr (src_row 0 rfl) sd sd rfl rfl rfl rfl rfl (fun A19 C20 => ?_))
    refine T_as 0 _ (.row (.slice A19 22 C20) 5 1 22 (([115#8, 101#8, 110#8, 100#8, 101#8, 114#8] ++ (eights [fr, start])).map b8)) rfl rfl ?_
    refine T_slot 15 (.slice A19 (6 + 16) C20) (.slice A19 22 C20) rfl rfl ?_
    refine D_past kr ?_
    refine D_one 9 _ rfl kr rfl (op_cn (fun w hw => rkey_f [] none 0 0 job (some ⟨g1, 0, none⟩) 32 32 ([115#8, 101#8, 110#8, 100#8, 101#8, 114#8] ++ (eights [fr, start])) A19 22 C20 w (hok_cons ((src_nil 1) w hw) (hok_cons ((src_full (z := 1) 5 rfl sd sd sd) w hw) (hok_cons ((src_row 0 rfl) w hw) (hok_nil w)))) (by first | assumption | omega | (simp; done) | (simp; omega)) sd (by first | assumption | omega | (simp; done) | (simp; omega)) sd hil sd) (enters_of Tryd.func12 kr rfl) rfl rfl rfl rfl rfl (fun t21 q22 => ?_))
    refine T_slot 16 _ (.agg ((kof job ([115#8, 101#8, 110#8, 100#8, 101#8, 114#8] ++ eights [fr, start])).map b8).toArray) rfl (by rw [kof_def]) ?_
    refine D_past kr ?_
    refine D_one 10 _ rfl kr rfl (op_sto (n := 32) (vs := ((kof job ([115#8, 101#8, 110#8, 100#8, 101#8, 114#8] ++ eights [fr, start])).map b8)) 4 rfl rfl kr (all8_one _) kr sd rfl rfl rfl rfl ?_)
    refine D_past kr ?_
    refine D_done kr ?_
    exact T_meet () trivial (sc rfl sn) [0, 5] ⟨by decide, rfl⟩
   ·
    refine id (op_bslice (e := 22) (zs := [(b64 fr), (b64 start)]) (qs := [(0, (b64 fr)), (1, (b64 start))]) (fun _ => by kernel_rfl) rfl rfl rfl rfl (fun g23 => ?_))
    refine D_on [2, 3] rfl ?_
    refine D_all [2, 7] kr (by simp) ⟨⟨_, rfl, rfl, ?_⟩, ⟨_, rfl, rfl, ?_⟩, trivial⟩
    ·
     refine id (op_mark (zs := [(b8 (115#8)), (b8 (101#8)), (b8 (110#8)), (b8 (100#8)), (b8 (101#8)), (b8 (114#8))]) 1 rfl Tryd.underlying29 Tryd.underlying5 sd sd rfl rfl rfl rfl rfl rfl ?_)
     refine D_on [2, 3] rfl ?_
     refine D_one 7 _ rfl kr rfl (op_cn (fun w hw => r8eights_f [fr, start] (some ⟨g23, 0, none⟩) 2 2 w (hok_cons ((src_full (z := 1) 1 rfl rfl sd sd) w hw) (hok_nil w)) sd sd) (enters_of Tryd.func34 kr rfl) rfl rfl rfl rfl rfl (fun t24 q25 => ?_))
     obtain ⟨B26, d27⟩ := t24
     refine T_slot 14 (.slice B26 (8 * 2) d27) (.slice B26 16 d27) rfl (by congr 1) ?_
     refine T_as 0 _ (.row (.slice B26 16 d27) 5 1 16 ((eights [fr, start]).map b8)) rfl (rfl) ?_
     refine D_on [3, 4] rfl ?_
     refine D_one 8 _ rfl kr rfl (op_app_old (zs := [115#8, 101#8, 110#8, 100#8, 101#8, 114#8]) (news := (eights [fr, start])) (src_old 1 rfl) sd sd Tryd.underlying29 kr (src_row 0 rfl) sd sd rfl rfl rfl rfl rfl (fun A28 C29 => ?_))
     refine T_as 0 _ (.row (.slice A28 22 C29) 5 1 22 (([115#8, 101#8, 110#8, 100#8, 101#8, 114#8] ++ (eights [fr, start])).map b8)) rfl rfl ?_
     refine T_slot 15 (.slice A28 (6 + 16) C29) (.slice A28 22 C29) rfl rfl ?_
     refine D_past kr ?_
     refine D_one 9 _ rfl kr rfl (op_cn (fun w hw => rkey_f [] none 0 0 job (some ⟨g1, 0, none⟩) 32 32 ([115#8, 101#8, 110#8, 100#8, 101#8, 114#8] ++ (eights [fr, start])) A28 22 C29 w (hok_cons ((src_nil 1) w hw) (hok_cons ((src_full (z := 1) 5 rfl sd sd sd) w hw) (hok_cons ((src_row 0 rfl) w hw) (hok_nil w)))) (by first | assumption | omega | (simp; done) | (simp; omega)) sd (by first | assumption | omega | (simp; done) | (simp; omega)) sd hil sd) (enters_of Tryd.func12 kr rfl) rfl rfl rfl rfl rfl (fun t30 q31 => ?_))
     refine T_slot 16 _ (.agg ((kof job ([115#8, 101#8, 110#8, 100#8, 101#8, 114#8] ++ eights [fr, start])).map b8).toArray) rfl (by rw [kof_def]) ?_
     refine D_past kr ?_
     refine D_one 10 _ rfl kr rfl (op_sto (n := 32) (vs := ((kof job ([115#8, 101#8, 110#8, 100#8, 101#8, 114#8] ++ eights [fr, start])).map b8)) 4 rfl rfl kr (all8_one _) kr sd rfl rfl rfl rfl ?_)
     refine D_past kr ?_
     refine D_done kr ?_
     exact T_meet () trivial (sc rfl sn) [0, 5] ⟨by decide, rfl⟩
    ·
     refine id (op_cn (fun w hw => r8eights_f [fr, start] (some ⟨g23, 0, none⟩) 2 2 w (hok_cons ((src_full (z := 1) 0 rfl rfl sd sd) w hw) (hok_nil w)) sd sd) (enters_of Tryd.func34 kr rfl) rfl rfl rfl rfl rfl (fun t32 q33 => ?_))
     obtain ⟨B34, d35⟩ := t32
     refine T_slot 14 (.slice B34 (8 * 2) d35) (.slice B34 16 d35) rfl (by congr 1) ?_
     refine T_as 0 _ (.row (.slice B34 16 d35) 5 1 16 ((eights [fr, start]).map b8)) rfl (rfl) ?_
     refine D_on [3, 4] rfl ?_
     refine D_one 2 _ rfl kr rfl (op_mark (zs := [(b8 (115#8)), (b8 (101#8)), (b8 (110#8)), (b8 (100#8)), (b8 (101#8)), (b8 (114#8))]) 2 rfl Tryd.underlying29 Tryd.underlying5 sd sd rfl rfl rfl rfl rfl rfl ?_)
     refine D_on [3, 4] rfl ?_
     refine D_one 8 _ rfl kr rfl (op_app_old (zs := [115#8, 101#8, 110#8, 100#8, 101#8, 114#8]) (news := (eights [fr, start])) (src_old 0 rfl) sd sd Tryd.underlying29 kr (src_row 1 rfl) sd sd rfl rfl rfl rfl rfl (fun A36 C37 => ?_))
     refine T_as 0 _ (.row (.slice A36 22 C37) 5 1 22 (([115#8, 101#8, 110#8, 100#8, 101#8, 114#8] ++ (eights [fr, start])).map b8)) rfl rfl ?_
     refine T_slot 15 (.slice A36 (6 + 16) C37) (.slice A36 22 C37) rfl rfl ?_
     refine D_past kr ?_
     refine D_one 9 _ rfl kr rfl (op_cn (fun w hw => rkey_f [] none 0 0 job (some ⟨g1, 0, none⟩) 32 32 ([115#8, 101#8, 110#8, 100#8, 101#8, 114#8] ++ (eights [fr, start])) A36 22 C37 w (hok_cons ((src_nil 1) w hw) (hok_cons ((src_full (z := 1) 5 rfl sd sd sd) w hw) (hok_cons ((src_row 0 rfl) w hw) (hok_nil w)))) (by first | assumption | omega | (simp; done) | (simp; omega)) sd (by first | assumption | omega | (simp; done) | (simp; omega)) sd hil sd) (enters_of Tryd.func12 kr rfl) rfl rfl rfl rfl rfl (fun t38 q39 => ?_))
     refine T_slot 16 _ (.agg ((kof job ([115#8, 101#8, 110#8, 100#8, 101#8, 114#8] ++ eights [fr, start])).map b8).toArray) rfl (by rw [kof_def]) ?_
     refine D_past kr ?_
     refine D_one 10 _ rfl kr rfl (op_sto (n := 32) (vs := ((kof job ([115#8, 101#8, 110#8, 100#8, 101#8, 114#8] ++ eights [fr, start])).map b8)) 4 rfl rfl kr (all8_one _) kr sd rfl rfl rfl rfl ?_)
     refine D_past kr ?_
     refine D_done kr ?_
     exact T_meet () trivial (sc rfl sn) [0, 5] ⟨by decide, rfl⟩
  ·
   refine id (op_bslice (e := 22) (zs := [(b64 fr), (b64 start)]) (qs := [(0, (b64 fr)), (1, (b64 start))]) (fun _ => by kernel_rfl) rfl rfl rfl rfl (fun g40 => ?_))
   refine D_on [1, 2] rfl ?_
   refine D_all [1, 7] kr (by simp) ⟨⟨_, rfl, rfl, ?_⟩, ⟨_, rfl, rfl, ?_⟩, trivial⟩
   ·
    refine id (op_bslice (e := 5) (zs := [(b8 (115#8)), (b8 (101#8)), (b8 (110#8)), (b8 (100#8)), (b8 (101#8)), (b8 (114#8))]) (qs := [(0, (b8 (115#8))), (1, (b8 (101#8))), (2, (b8 (110#8))), (3, (b8 (100#8))), (4, (b8 (101#8))), (5, (b8 (114#8)))]) (fun _ => by kernel_rfl) rfl rfl rfl rfl (fun g41 => ?_))
    refine D_on [2, 3] rfl ?_
    refine D_all [2, 7] kr (by simp) ⟨⟨_, rfl, rfl, ?_⟩, ⟨_, rfl, rfl, ?_⟩, trivial⟩
    ·
     refine id (op_mark (zs := [(b8 (115#8)), (b8 (101#8)), (b8 (110#8)), (b8 (100#8)), (b8 (101#8)), (b8 (114#8))]) 0 rfl Tryd.underlying29 Tryd.underlying5 sd sd rfl rfl rfl rfl rfl rfl ?_)
     refine D_on [2, 3] rfl ?_
     refine D_one 7 _ rfl kr rfl (op_cn (fun w hw => r8eights_f [fr, start] (some ⟨g40, 0, none⟩) 2 2 w (hok_cons ((src_full (z := 1) 1 rfl rfl sd sd) w hw) (hok_nil w)) sd sd) (enters_of Tryd.func34 kr rfl) rfl rfl rfl rfl rfl (fun t42 q43 => ?_))
     obtain ⟨B44, d45⟩ := t42
     refine T_slot 14 (.slice B44 (8 * 2) d45) (.slice B44 16 d45) rfl (by congr 1) ?_
     refine T_as 0 _ (.row (.slice B44 16 d45) 5 1 16 ((eights [fr, start]).map b8)) rfl (rfl) ?_
     refine D_on [3, 4] rfl ?_
     refine D_one 8 _ rfl kr rfl (op_app_old (zs := [115#8, 101#8, 110#8, 100#8, 101#8, 114#8]) (news := (eights [fr, start])) (src_old 1 rfl) sd sd Tryd.underlying29 kr (src_row 0 rfl) sd sd rfl rfl rfl rfl rfl (fun A46 C47 => ?_))
     refine T_as 0 _ (.row (.slice A46 22 C47) 5 1 22 (([115#8, 101#8, 110#8, 100#8, 101#8, 114#8] ++ (eights [fr, start])).map b8)) rfl rfl ?_
     refine T_slot 15 (.slice A46 (6 + 16) C47) (.slice A46 22 C47) rfl rfl ?_
     refine D_past kr ?_
     refine D_one 9 _ rfl kr rfl (op_cn (fun w hw => rkey_f [] none 0 0 job (some ⟨g1, 0, none⟩) 32 32 ([115#8, 101#8, 110#8, 100#8, 101#8, 114#8] ++ (eights [fr, start])) A46 22 C47 w (hok_cons ((src_nil 1) w hw) (hok_cons ((src_full (z := 1) 5 rfl sd sd sd) w hw) (hok_cons ((src_row 0 rfl) w hw) (hok_nil w)))) (by first | assumption | omega | (simp; done) | (simp; omega)) sd (by first | assumption | omega | (simp; done) | (simp; omega)) sd hil sd) (enters_of Tryd.func12 kr rfl) rfl rfl rfl rfl rfl (fun t48 q49 => ?_))
     refine T_slot 16 _ (.agg ((kof job ([115#8, 101#8, 110#8, 100#8, 101#8, 114#8] ++ eights [fr, start])).map b8).toArray) rfl (by rw [kof_def]) ?_
     refine D_past kr ?_
     refine D_one 10 _ rfl kr rfl (op_sto (n := 32) (vs := ((kof job ([115#8, 101#8, 110#8, 100#8, 101#8, 114#8] ++ eights [fr, start])).map b8)) 4 rfl rfl kr (all8_one _) kr sd rfl rfl rfl rfl ?_)
     refine D_past kr ?_
     refine D_done kr ?_
     exact T_meet () trivial (sc rfl sn) [0, 5] ⟨by decide, rfl⟩
    ·
     refine id (op_cn (fun w hw => r8eights_f [fr, start] (some ⟨g40, 0, none⟩) 2 2 w (hok_cons ((src_full (z := 1) 1 rfl rfl sd sd) w hw) (hok_nil w)) sd sd) (enters_of Tryd.func34 kr rfl) rfl rfl rfl rfl rfl (fun t50 q51 => ?_))
     obtain ⟨B52, d53⟩ := t50
     refine T_slot 14 (.slice B52 (8 * 2) d53) (.slice B52 16 d53) rfl (by congr 1) ?_
     refine T_as 0 _ (.row (.slice B52 16 d53) 5 1 16 ((eights [fr, start]).map b8)) rfl (rfl) ?_
     refine D_on [3, 4] rfl ?_
     refine D_one 2 _ rfl kr rfl (op_mark (zs := [(b8 (115#8)), (b8 (101#8)), (b8 (110#8)), (b8 (100#8)), (b8 (101#8)), (b8 (114#8))]) 1 rfl Tryd.underlying29 Tryd.underlying5 sd sd rfl rfl rfl rfl rfl rfl ?_)
     refine D_on [3, 4] rfl ?_
     refine D_one 8 _ rfl kr rfl (op_app_old (zs := [115#8, 101#8, 110#8, 100#8, 101#8, 114#8]) (news := (eights [fr, start])) (src_old 0 rfl) sd sd Tryd.underlying29 kr (src_row 1 rfl) sd sd rfl rfl rfl rfl rfl (fun A54 C55 => ?_))
     refine T_as 0 _ (.row (.slice A54 22 C55) 5 1 22 (([115#8, 101#8, 110#8, 100#8, 101#8, 114#8] ++ (eights [fr, start])).map b8)) rfl rfl ?_
     refine T_slot 15 (.slice A54 (6 + 16) C55) (.slice A54 22 C55) rfl rfl ?_
     refine D_past kr ?_
     refine D_one 9 _ rfl kr rfl (op_cn (fun w hw => rkey_f [] none 0 0 job (some ⟨g1, 0, none⟩) 32 32 ([115#8, 101#8, 110#8, 100#8, 101#8, 114#8] ++ (eights [fr, start])) A54 22 C55 w (hok_cons ((src_nil 1) w hw) (hok_cons ((src_full (z := 1) 5 rfl sd sd sd) w hw) (hok_cons ((src_row 0 rfl) w hw) (hok_nil w)))) (by first | assumption | omega | (simp; done) | (simp; omega)) sd (by first | assumption | omega | (simp; done) | (simp; omega)) sd hil sd) (enters_of Tryd.func12 kr rfl) rfl rfl rfl rfl rfl (fun t56 q57 => ?_))
     refine T_slot 16 _ (.agg ((kof job ([115#8, 101#8, 110#8, 100#8, 101#8, 114#8] ++ eights [fr, start])).map b8).toArray) rfl (by rw [kof_def]) ?_
     refine D_past kr ?_
     refine D_one 10 _ rfl kr rfl (op_sto (n := 32) (vs := ((kof job ([115#8, 101#8, 110#8, 100#8, 101#8, 114#8] ++ eights [fr, start])).map b8)) 4 rfl rfl kr (all8_one _) kr sd rfl rfl rfl rfl ?_)
     refine D_past kr ?_
     refine D_done kr ?_
     exact T_meet () trivial (sc rfl sn) [0, 5] ⟨by decide, rfl⟩
   ·
    refine id (op_cn (fun w hw => r8eights_f [fr, start] (some ⟨g40, 0, none⟩) 2 2 w (hok_cons ((src_full (z := 1) 0 rfl rfl sd sd) w hw) (hok_nil w)) sd sd) (enters_of Tryd.func34 kr rfl) rfl rfl rfl rfl rfl (fun t58 q59 => ?_))
    obtain ⟨B60, d61⟩ := t58
    refine T_slot 14 (.slice B60 (8 * 2) d61) (.slice B60 16 d61) rfl (by congr 1) ?_
    refine T_as 0 _ (.row (.slice B60 16 d61) 5 1 16 ((eights [fr, start]).map b8)) rfl (rfl) ?_
    refine D_on [2, 3] rfl ?_
    refine D_one 1 _ rfl kr rfl (op_bslice (e := 5) (zs := [(b8 (115#8)), (b8 (101#8)), (b8 (110#8)), (b8 (100#8)), (b8 (101#8)), (b8 (114#8))]) (qs := [(0, (b8 (115#8))), (1, (b8 (101#8))), (2, (b8 (110#8))), (3, (b8 (100#8))), (4, (b8 (101#8))), (5, (b8 (114#8)))]) (fun _ => by kernel_rfl) rfl rfl rfl rfl (fun g62 => ?_))
    refine D_on [3, 4] rfl ?_
    refine D_one 2 _ rfl kr rfl (op_mark (zs := [(b8 (115#8)), (b8 (101#8)), (b8 (110#8)), (b8 (100#8)), (b8 (101#8)), (b8 (114#8))]) 0 rfl Tryd.underlying29 Tryd.underlying5 sd sd rfl rfl rfl rfl rfl rfl ?_)
    refine D_on [3, 4] rfl ?_
    refine D_one 8 _ rfl kr rfl (op_app_old (zs := [115#8, 101#8, 110#8, 100#8, 101#8, 114#8]) (news := (eights [fr, start])) (src_old 0 rfl) sd sd Tryd.underlying29 kr (src_row 1 rfl) sd sd rfl rfl rfl rfl rfl (fun A63 C64 => ?_))
    refine T_as 0 _ (.row (.slice A63 22 C64) 5 1 22 (([115#8, 101#8, 110#8, 100#8, 101#8, 114#8] ++ (eights [fr, start])).map b8)) rfl rfl ?_
    refine T_slot 15 (.slice A63 (6 + 16) C64) (.slice A63 22 C64) rfl rfl ?_
    refine D_past kr ?_
    refine D_one 9 _ rfl kr rfl (op_cn (fun w hw => rkey_f [] none 0 0 job (some ⟨g1, 0, none⟩) 32 32 ([115#8, 101#8, 110#8, 100#8, 101#8, 114#8] ++ (eights [fr, start])) A63 22 C64 w (hok_cons ((src_nil 1) w hw) (hok_cons ((src_full (z := 1) 5 rfl sd sd sd) w hw) (hok_cons ((src_row 0 rfl) w hw) (hok_nil w)))) (by first | assumption | omega | (simp; done) | (simp; omega)) sd (by first | assumption | omega | (simp; done) | (simp; omega)) sd hil sd) (enters_of Tryd.func12 kr rfl) rfl rfl rfl rfl rfl (fun t65 q66 => ?_))
    refine T_slot 16 _ (.agg ((kof job ([115#8, 101#8, 110#8, 100#8, 101#8, 114#8] ++ eights [fr, start])).map b8).toArray) rfl (by rw [kof_def]) ?_
    refine D_past kr ?_
    refine D_one 10 _ rfl kr rfl (op_sto (n := 32) (vs := ((kof job ([115#8, 101#8, 110#8, 100#8, 101#8, 114#8] ++ eights [fr, start])).map b8)) 4 rfl rfl kr (all8_one _) kr sd rfl rfl rfl rfl ?_)
    refine D_past kr ?_
    refine D_done kr ?_
    exact T_meet () trivial (sc rfl sn) [0, 5] ⟨by decide, rfl⟩
 ·
  rintro ⟨⟩ -
  refine T_re [(6, (.pointer (some ⟨g2, 0, none⟩)))] (sc rfl sn) ?_
  refine T_he [0, 1] [.blk g2 34 ((kof job ([115#8, 101#8, 110#8, 100#8, 101#8, 114#8] ++ eights [fr, start])).map b8), .blk g1 34 (job.map b8)] ⟨by decide, rfl⟩ ?_
  refine T_ret ?_
  exact T_fin () (by first | trivial | omega | (simp; done)) (resb 0 rfl rfl rfl Tryd.underlying34 rfl (fwz (n := 32) kr sd)) [] ⟨by decide, rfl⟩ rfl
set_option maxHeartbeats 4000000 in
theorem rjour_f (job : List (BitVec 8)) (w : World) (hO : HOK [] w) (hj : job.length = 32) : Calls Tryd.prog 22 [(.agg (job.map b8).toArray)].toArray w (Ret (T := Unit) [] w (fun _ => True) (fun _ => (.agg ((kof job [106#8, 111#8, 117#8, 114#8, 110#8, 97#8, 108#8]).map b8).toArray)) (fun _ => [])) := by
 have hil : ([106#8, 111#8, 117#8, 114#8, 110#8, 97#8, 108#8]).length = 7 := by rfl
 have hkl := kof_len job [106#8, 111#8, 117#8, 114#8, 110#8, 97#8, 108#8]
 have hF : Wid Fence.wide := wid_wide
 refine enter (c := _) Tryd.func22 rfl [] _ [] (by rw [Tryd.ntmps22]; rfl) (own_rds hO rfl) ?_
 rw [Tryd.ntmps22]
 refine T_re [(0, (.agg (job.map b8).toArray))] (sc rfl sn) ?_
 refine T_he [] [] ⟨by decide, rfl⟩ ?_
 refine Tsr hF rfl ?_
 refine L_op rfl (op_box (zs := (job.map b8)) rfl rfl rfl rfl rfl (fun g1 => ?_))
 refine L_op rfl (op_alloc (z := .agg ((List.replicate 32 0#8).map b8).toArray) (zs := ((List.replicate 32 0#8).map b8)) kr rfl rfl rfl rfl (fun g2 => ?_))
 refine L_nil ?_
 refine Tsr hF rfl ?_
 refine lo rfl (pr_sla (l := 0) (u := 32) (m := 0) sd sd sd rfl Tryd.underlying34 (z := 1) kr rfl rfl rfl rfl) rfl rfl ?_
 refine L_op rfl (op_bslice (e := 5) (zs := [(b8 (106#8)), (b8 (111#8)), (b8 (117#8)), (b8 (114#8)), (b8 (110#8)), (b8 (97#8)), (b8 (108#8))]) (qs := [(0, (b8 (106#8))), (1, (b8 (111#8))), (2, (b8 (117#8))), (3, (b8 (114#8))), (4, (b8 (110#8))), (5, (b8 (97#8))), (6, (b8 (108#8)))]) (fun _ => by kernel_rfl) rfl rfl rfl rfl (fun g3 => ?_))
 refine L_op rfl (op_mark (zs := [(b8 (106#8)), (b8 (111#8)), (b8 (117#8)), (b8 (114#8)), (b8 (110#8)), (b8 (97#8)), (b8 (108#8))]) 0 rfl Tryd.underlying29 Tryd.underlying5 sd sd rfl rfl rfl rfl rfl rfl ?_)
 refine L_op rfl (op_cn (fun w hw => rkey_f [] none 0 0 job (some ⟨g1, 0, none⟩) 32 32 [106#8, 111#8, 117#8, 114#8, 110#8, 97#8, 108#8] (some ⟨g3, 0, none⟩) 7 7 w (hok_cons ((src_nil 1) w hw) (hok_cons ((src_full (z := 1) 2 rfl sd sd sd) w hw) (hok_cons ((src_old 0 rfl) w hw) (hok_nil w)))) (by first | assumption | omega | (simp; done) | (simp; omega)) sd (by first | assumption | omega | (simp; done) | (simp; omega)) sd hil sd) (enters_of Tryd.func12 kr rfl) rfl rfl rfl rfl rfl (fun t4 q5 => ?_))
 refine T_slot 6 _ (.agg ((kof job [106#8, 111#8, 117#8, 114#8, 110#8, 97#8, 108#8]).map b8).toArray) rfl (by rw [kof_def]) ?_
 refine L_op rfl (op_sto (n := 32) (vs := ((kof job [106#8, 111#8, 117#8, 114#8, 110#8, 97#8, 108#8]).map b8)) 1 rfl rfl kr (all8_one _) kr sd rfl rfl rfl rfl ?_)
 refine L_nil ?_
 refine T_ret ?_
 exact T_fin () (by first | trivial | omega | (simp; done)) (resb 0 rfl rfl rfl Tryd.underlying34 rfl (fwz (n := 32) kr sd)) [] ⟨by decide, rfl⟩ rfl
set_option maxHeartbeats 4000000 in
theorem rnonce_f (a : BitVec 64) (i : BitVec 64) (w : World) (hO : HOK [] w)  : Calls Tryd.prog 18 [(b64 a), (.int .i64 (i64 i))].toArray w (Ret (T := Unit) [] w (fun _ => True) (fun _ => (.agg ((nonc a i).map b8).toArray)) (fun _ => [])) := by
 have hnl := nonc_len a i
 have hF : Wid Fence.wide := wid_wide
 refine enter (c := _) Tryd.func18 rfl [] _ [] (by rw [Tryd.ntmps18]; rfl) (own_rds hO rfl) ?_
 rw [Tryd.ntmps18]
 refine T_re [(0, (b64 a)), (1, (.int .i64 (i64 i)))] (sc rfl (sc rfl sn)) ?_
 refine T_he [] [] ⟨by decide, rfl⟩ ?_
 refine Tsr hF rfl ?_
 refine L_op rfl (op_alloc (z := .agg ((List.replicate 12 0#8).map b8).toArray) (zs := ((List.replicate 12 0#8).map b8)) kr rfl rfl rfl rfl (fun g1 => ?_))
 refine L_nil ?_
 refine Tsr hF rfl ?_
 refine L_op rfl (op_alloc (z := .agg ((List.replicate 12 0#8).map b8).toArray) (zs := ((List.replicate 12 0#8).map b8)) kr rfl rfl rfl rfl (fun g2 => ?_))
 refine L_nil ?_
 refine T_seq ?_
 refine Tsr hF rfl ?_
 refine la rfl rfl rfl rfl rfl ?_
 refine L_nil ?_
 refine T_block ?_
 refine T_as 0 _ (.blk g2 31 ((npad a i 0).map b8)) rfl (by rw [← npad_zero a i]) ?_
 refine T_loop (T := Nat) (fun k => k ≤ 8) (fun k => [(0, (b64 a)), (1, (.int .i64 (i64 i))), (4, (.pointer (some ⟨g1, 0, none⟩))), (5, (.pointer (some ⟨g2, 0, none⟩))), (6, (.int .i64 ((k : Nat) : Int)))]) (fun k => [.blk g2 31 ((npad a i k).map b8), .blk g1 31 ((List.replicate 12 0#8).map b8)]) (fun k => 8 - k) 0 (by first | trivial | ((try dsimp only); first | omega | (refine ⟨?_, ?_⟩ <;> omega) | (refine ⟨?_, ?_, ?_⟩ <;> omega) | (simp; done) | (simp; omega))) (sc rfl (sc rfl (sc rfl (sc rfl (sc rfl sn))))) [0, 1] ⟨by decide, rfl⟩ ?_
 rintro k hp
 have hp : k ≤ 8 := hp
 have hpl := npad_len a i k (by omega)
 refine T_re [(0, (b64 a)), (1, (.int .i64 (i64 i))), (4, (.pointer (some ⟨g1, 0, none⟩))), (5, (.pointer (some ⟨g2, 0, none⟩))), (6, (.int .i64 ((k : Nat) : Int)))] (sc rfl (sc rfl (sc rfl (sc rfl (sc rfl sn))))) ?_
 refine T_he [0, 1] [.blk g2 31 ((npad a i k).map b8), .blk g1 31 ((List.replicate 12 0#8).map b8)] ⟨by decide, rfl⟩ ?_
 refine T_seq ?_
 refine Tsr hF rfl ?_
 refine lm rfl rfl rfl rfl rfl ?_
 refine lo rfl (pr_cmp (bo := .lss) (nc_lt (a := k) (b := 8)) rfl rfl rfl rfl) rfl rfl ?_
 refine L_nil ?_
 refine T_cond (decide (k < 8)) rfl (fun hc_3 => ?_) (fun hc_3 => ?_)
 ·
  have hc_3 := of_decide_eq_true hc_3
  refine T_skip ?_
  refine T_seq ?_
  refine T_block ?_
  refine T_reg hF rfl ?_
  refine lm rfl rfl rfl rfl rfl ?_
  refine lm rfl rfl rfl rfl rfl ?_
  refine lm rfl rfl rfl rfl rfl ?_
  refine lo rfl (pr_mul (nm_i64 (a := 8) (b := k) sd) rfl rfl rfl) rfl rfl ?_
  refine lo rfl (pr_cv (ni_u64 (a := 8 * k) sd) Tryd.underlying3 Tryd.underlying57 rfl rfl) rfl rfl ?_
  refine lo rfl (pr_shift (sh_shr64 a _ (8 * k)) rfl rfl rfl rfl) rfl rfl ?_
  refine lo rfl (pr_cv (cv64_8 _) Tryd.underlying22 Tryd.underlying5 rfl rfl) rfl rfl ?_
  refine lo rfl (pr_ixa (j := k) (m' := k) sd (by omega) Tryd.underlying31 (z := 1) kr rfl rfl rfl) rfl rfl ?_
  refine L_op rfl (op_store (vs := [(b8 ((a >>> (8 * k)).setWidth 8))]) (cs' := ((List.set (npad a i k) k ((a >>> (8 * k)).setWidth 8)).map b8)) 0 rfl rfl kr (one_one rfl) (stl sd) (splice_map (f := b8) sd) rfl rfl rfl rfl ?_)
  refine L_nil ?_
  refine T_reg hF rfl ?_
  refine lm rfl rfl rfl rfl rfl ?_
  refine lo rfl (pr_add (na_i64 (a := k) (b := 1) sd) rfl rfl rfl) rfl rfl ?_
  refine la rfl rfl rfl rfl rfl ?_
  refine L_nil ?_
  refine T_as 0 _ (.blk g2 31 ((npad a i (k + 1)).map b8)) rfl (by rw [npad_set a i k (by omega) _ (np_lo a i k (by omega))]) ?_
  exact T_again (k + 1) (by first | trivial | ((try dsimp only); first | omega | (refine ⟨?_, ?_⟩ <;> omega) | (refine ⟨?_, ?_, ?_⟩ <;> omega) | (simp; done) | (simp; omega))) (by first | trivial | ((try dsimp only); first | omega | (refine ⟨?_, ?_⟩ <;> omega) | (refine ⟨?_, ?_, ?_⟩ <;> omega) | (simp; done) | (simp; omega))) (sc rfl (sc rfl (sc rfl (sc rfl (sc rfl sn))))) [0, 1] ⟨by decide, rfl⟩
 ·
  have hc_3 := of_decide_eq_false hc_3
  refine T_exit rfl ?_
  obtain rfl : 8 = k := by omega
  refine T_seq ?_
  refine Tsr hF rfl ?_
  refine la rfl rfl rfl rfl rfl ?_
  refine L_nil ?_
  refine T_block ?_
  refine T_as 0 _ (.blk g2 31 ((npad a i (8 + 0)).map b8)) rfl (by rfl) ?_
  refine T_loop (T := Nat) (fun k => k ≤ 4) (fun k => [(1, (.int .i64 (i64 i))), (4, (.pointer (some ⟨g1, 0, none⟩))), (5, (.pointer (some ⟨g2, 0, none⟩))), (7, (.int .i64 ((k : Nat) : Int)))]) (fun k => [.blk g2 31 ((npad a i (8 + k)).map b8), .blk g1 31 ((List.replicate 12 0#8).map b8)]) (fun k => 4 - k) 0 (by first | trivial | ((try dsimp only); first | omega | (refine ⟨?_, ?_⟩ <;> omega) | (refine ⟨?_, ?_, ?_⟩ <;> omega) | (simp; done) | (simp; omega))) (sc rfl (sc rfl (sc rfl (sc rfl sn)))) [0, 1] ⟨by decide, rfl⟩ ?_
  rintro k hp
  have hp : k ≤ 4 := hp
  have hpl := npad_len a i (8 + k) (by omega)
  refine T_re [(1, (.int .i64 (i64 i))), (4, (.pointer (some ⟨g1, 0, none⟩))), (5, (.pointer (some ⟨g2, 0, none⟩))), (7, (.int .i64 ((k : Nat) : Int)))] (sc rfl (sc rfl (sc rfl (sc rfl sn)))) ?_
  refine T_he [0, 1] [.blk g2 31 ((npad a i (8 + k)).map b8), .blk g1 31 ((List.replicate 12 0#8).map b8)] ⟨by decide, rfl⟩ ?_
  refine T_seq ?_
  refine Tsr hF rfl ?_
  refine lm rfl rfl rfl rfl rfl ?_
  refine lo rfl (pr_cmp (bo := .lss) (nc_lt (a := k) (b := 4)) rfl rfl rfl rfl) rfl rfl ?_
  refine L_nil ?_
  refine T_cond (decide (k < 4)) rfl (fun hc_4 => ?_) (fun hc_4 => ?_)
  ·
   have hc_4 := of_decide_eq_true hc_4
   refine T_skip ?_
   refine T_seq ?_
   refine T_block ?_
   refine T_reg hF rfl ?_
   refine lm rfl rfl rfl rfl rfl ?_
   refine lo rfl (pr_add (na_i64 (a := 8) (b := k) sd) rfl rfl rfl) rfl rfl ?_
   refine lm rfl rfl rfl rfl rfl ?_
   refine lo rfl (pr_cv (zc_i64u i) Tryd.underlying3 Tryd.underlying22 rfl rfl) rfl rfl ?_
   refine lm rfl rfl rfl rfl rfl ?_
   refine lo rfl (pr_mul (nm_i64 (a := 8) (b := k) sd) rfl rfl rfl) rfl rfl ?_
   refine lo rfl (pr_cv (ni_u64 (a := 8 * k) sd) Tryd.underlying3 Tryd.underlying57 rfl rfl) rfl rfl ?_
   refine lo rfl (pr_shift (sh_shr64 i _ (8 * k)) rfl rfl rfl rfl) rfl rfl ?_
   refine lo rfl (pr_cv (cv64_8 _) Tryd.underlying22 Tryd.underlying5 rfl rfl) rfl rfl ?_
   refine lo rfl (pr_ixa (j := 8 + k) (m' := 8 + k) sd (by omega) Tryd.underlying31 (z := 1) kr rfl rfl rfl) rfl rfl ?_
   refine L_op rfl (op_store (vs := [(b8 ((i >>> (8 * k)).setWidth 8))]) (cs' := ((List.set (npad a i (8 + k)) (8 + k) ((i >>> (8 * k)).setWidth 8)).map b8)) 0 rfl rfl kr (one_one rfl) (stl sd) (splice_map (f := b8) sd) rfl rfl rfl rfl ?_)
   refine L_nil ?_
   refine T_reg hF rfl ?_
   refine lm rfl rfl rfl rfl rfl ?_
   refine lo rfl (pr_add (na_i64 (a := k) (b := 1) sd) rfl rfl rfl) rfl rfl ?_
   refine la rfl rfl rfl rfl rfl ?_
   refine L_nil ?_
   refine T_as 0 _ (.blk g2 31 ((npad a i (8 + (k + 1))).map b8)) rfl (by rw [npad_set a i (8 + k) (by omega) _ (np_hi a i k (by omega))]; rfl) ?_
   exact T_again (k + 1) (by first | trivial | ((try dsimp only); first | omega | (refine ⟨?_, ?_⟩ <;> omega) | (refine ⟨?_, ?_, ?_⟩ <;> omega) | (simp; done) | (simp; omega))) (by first | trivial | ((try dsimp only); first | omega | (refine ⟨?_, ?_⟩ <;> omega) | (refine ⟨?_, ?_, ?_⟩ <;> omega) | (simp; done) | (simp; omega))) (sc rfl (sc rfl (sc rfl (sc rfl sn)))) [0, 1] ⟨by decide, rfl⟩
  ·
   have hc_4 := of_decide_eq_false hc_4
   refine T_exit rfl ?_
   obtain rfl : 4 = k := by omega
   refine Tsr hF rfl ?_
   refine lq rfl (ld_agg (ds := ((npad a i (8 + 4)).map b8)) 0 rfl agg_all Tryd.underlying31 rfl (fwz (n := 12) kr sd) rfl rfl) rfl rfl ?_
   refine L_op rfl (op_sto (n := 12) (vs := ((npad a i (8 + 4)).map b8)) 1 rfl rfl kr (all8_one _) kr sd rfl rfl rfl rfl ?_)
   refine L_nil ?_
   refine T_ret ?_
   refine T_as 0 _ (.blk g1 31 ((nonc a i).map b8)) rfl (by rw [← npad_all]) ?_
   exact T_fin () (by first | trivial | omega | (simp; done)) (resb 0 rfl rfl rfl Tryd.underlying31 rfl (fwz (n := 12) kr sd)) [] ⟨by decide, rfl⟩ rfl
set_option maxHeartbeats 4000000 in
theorem raad_f (pp : BitVec 64) (pr : BitVec 64) (pa : BitVec 64) (pt : BitVec 64) (pi : BitVec 64) (sz : BitVec 64) (w : World) (hO : HOK [] w)  : Calls Tryd.prog 23 [(.agg [(.int .i64 (i64 pp)), (.int .i64 (i64 pr)), (.int .i64 (i64 pa)), (b64 pt), (.int .i64 (i64 pi))].toArray), (.int .i64 (i64 sz))].toArray w (Ret (T := Option Addr × Nat) [] w (fun ⟨B, d⟩ => True) (fun ⟨B, d⟩ => (.slice B 48 d)) (fun ⟨B, d⟩ => [.row (.slice B 48 d) 5 1 48 ((eights [pp, pr, pa, pt, pi, sz]).map b8)])) := by
 have hF : Wid Fence.wide := wid_wide
 refine enter (c := _) Tryd.func23 rfl [] _ [] (by rw [Tryd.ntmps23]; rfl) (own_rds hO rfl) ?_
 rw [Tryd.ntmps23]
 refine T_re [(0, (.agg [(.int .i64 (i64 pp)), (.int .i64 (i64 pr)), (.int .i64 (i64 pa)), (b64 pt), (.int .i64 (i64 pi))].toArray)), (1, (.int .i64 (i64 sz)))] (sc rfl (sc rfl sn)) ?_
 refine T_he [] [] ⟨by decide, rfl⟩ ?_
 refine Tsr hF rfl ?_
 refine L_op rfl (op_box (zs := [(.int .i64 (i64 pp)), (.int .i64 (i64 pr)), (.int .i64 (i64 pa)), (b64 pt), (.int .i64 (i64 pi))]) rfl rfl rfl rfl rfl (fun g1 => ?_))
 refine la rfl rfl rfl rfl rfl ?_
 refine L_nil ?_
 refine Tsr hF rfl ?_
 refine lo rfl (pr_fa (m := 0) (m' := 0) (z := 0) (by rfl) Tryd.underlying24 rfl kr rfl rfl) rfl rfl ?_
 refine lq rfl (ld_blk 0 rfl rfl Tryd.underlying3 rfl rfl rfl) rfl rfl ?_
 refine lo rfl (pr_cv (zc_i64u pp) Tryd.underlying3 Tryd.underlying22 rfl rfl) rfl rfl ?_
 refine lo rfl (pr_fa (m := 0) (m' := 1) (z := 0) (by rfl) Tryd.underlying24 rfl kr rfl rfl) rfl rfl ?_
 refine lq rfl (ld_blk 0 rfl rfl Tryd.underlying3 rfl rfl rfl) rfl rfl ?_
 refine lo rfl (pr_cv (zc_i64u pr) Tryd.underlying3 Tryd.underlying22 rfl rfl) rfl rfl ?_
 refine lo rfl (pr_fa (m := 0) (m' := 2) (z := 0) (by rfl) Tryd.underlying24 rfl kr rfl rfl) rfl rfl ?_
 refine lq rfl (ld_blk 0 rfl rfl Tryd.underlying3 rfl rfl rfl) rfl rfl ?_
 refine lo rfl (pr_cv (zc_i64u pa) Tryd.underlying3 Tryd.underlying22 rfl rfl) rfl rfl ?_
 refine lo rfl (pr_fa (m := 0) (m' := 3) (z := 0) (by rfl) Tryd.underlying24 rfl kr rfl rfl) rfl rfl ?_
 refine lq rfl (ld_blk 0 rfl rfl Tryd.underlying22 rfl rfl rfl) rfl rfl ?_
 refine lo rfl (pr_fa (m := 0) (m' := 4) (z := 0) (by rfl) Tryd.underlying24 rfl kr rfl rfl) rfl rfl ?_
 refine lq rfl (ld_blk 0 rfl rfl Tryd.underlying3 rfl rfl rfl) rfl rfl ?_
 refine lo rfl (pr_cv (zc_i64u pi) Tryd.underlying3 Tryd.underlying22 rfl rfl) rfl rfl ?_
 refine lm rfl rfl rfl rfl rfl ?_
 refine lo rfl (pr_cv (zc_i64u sz) Tryd.underlying3 Tryd.underlying22 rfl rfl) rfl rfl ?_
 refine L_op rfl (op_bslice (e := 22) (zs := [(b64 pp), (b64 pr), (b64 pa), (b64 pt), (b64 pi), (b64 sz)]) (qs := [(0, (b64 pp)), (1, (b64 pr)), (2, (b64 pa)), (3, (b64 pt)), (4, (b64 pi)), (5, (b64 sz))]) (fun _ => by kernel_rfl) rfl rfl rfl rfl (fun g2 => ?_))
 refine L_op rfl (op_cn (fun w hw => r8eights_f [pp, pr, pa, pt, pi, sz] (some ⟨g2, 0, none⟩) 6 6 w (hok_cons ((src_full (z := 1) 0 rfl rfl sd sd) w hw) (hok_nil w)) sd sd) (enters_of Tryd.func34 kr rfl) rfl rfl rfl rfl rfl (fun t3 q4 => ?_))
 obtain ⟨B5, d6⟩ := t3
 refine T_slot 22 (.slice B5 (8 * 6) d6) (.slice B5 48 d6) rfl (by congr 1) ?_
 refine T_as 0 _ (.row (.slice B5 48 d6) 5 1 48 ((eights [pp, pr, pa, pt, pi, sz]).map b8)) rfl (rfl) ?_
 refine la rfl rfl rfl rfl rfl ?_
 refine L_nil ?_
 refine T_ret ?_
 exact T_fin (B5, d6) (by first | trivial | omega | (simp; done)) (res1 rfl rfl) [0] ⟨by decide, rfl⟩ rfl
end Go.Proofs.YtlplpmkdebemnaaDoor
namespace Go.Proofs.YtlplpmkdebemnaaDoor
set_option linter.unusedVariables false
set_option linter.unusedSimpArgs false
set_option linter.unnecessarySimpa false
set_option maxRecDepth 100000
open Go.RowKit Bv Fw

theorem decb0 : decb (0#64).toNat = [48#8] := decb_small (by decide)
theorem itob0 : itob (i64 0#64) = [48#8] := by rw [itob_pos (by decide)]; exact decb_small (by decide)
theorem name0 : pname (itob (i64 0#64)) (itob (i64 0#64)) (itob (i64 0#64)) (decb (0#64).toNat) (itob (i64 0#64)) = [112#8, 48#8, 46#8, 114#8, 48#8, 46#8, 97#8, 48#8, 46#8, 116#8, 48#8, 46#8, 105#8, 48#8] := by
  rw [decb0, itob0, pname_eq]; rfl

set_option maxRecDepth 100000 in
set_option maxHeartbeats 4000000 in
theorem awake8_f  (w : World) (hO : HOK [] w) (htab : Tab w) : Calls Tryd.prog 7 [].toArray w (Ret (T := Unit) [] w (fun _ => True) (fun _ => (.bool true)) (fun _ => [])) := by
 have hkl := kof_len [1#8, 0#8, 0#8, 0#8, 0#8, 0#8, 0#8, 0#8, 0#8, 0#8, 0#8, 0#8, 0#8, 0#8, 0#8, 0#8, 0#8, 0#8, 0#8, 0#8, 0#8, 0#8, 0#8, 0#8, 0#8, 0#8, 0#8, 0#8, 0#8, 0#8, 0#8, 0#8] ([106#8, 111#8, 98#8] ++ eights [2#64])
 have hF : Wid Fence.wide := wid_wide
 refine enter (c := _) Tryd.func7 rfl [] _ [] (by rw [Tryd.ntmps7]; rfl) (own_rds hO rfl) ?_
 rw [Tryd.ntmps7]
 refine T_re [] sn ?_
 refine T_he [] [] ⟨by decide, rfl⟩ ?_
 refine Tsr hF rfl ?_
 refine la rfl rfl rfl rfl rfl ?_
 refine L_nil ?_
 refine Tsr hF rfl ?_
 refine lo rfl (pr_build (qs := []) (v := .agg [(.int .i64 ((0 : Nat) : Int)), (.int .i64 ((0 : Nat) : Int)), (.int .i64 ((0 : Nat) : Int)), (b64 (0#64)), (.int .i64 ((0 : Nat) : Int))].toArray) (fun _ => by kernel_rfl) rfl rfl) rfl rfl ?_
 refine L_op rfl (op_cnK (fun w hw kp => kname_f (0#64) (0#64) (0#64) (0#64) (0#64) w (hok_nil w) (tab_keep htab kp)) (enters_of Tryd.func8 kr rfl) rfl rfl rfl rfl rfl (fun t1 q2 => ?_))
 refine T_slot 2 _ (.string (sob [112#8, 48#8, 46#8, 114#8, 48#8, 46#8, 97#8, 48#8, 46#8, 116#8, 48#8, 46#8, 105#8, 48#8])) rfl (by rw [name0]) ?_
 refine lo rfl (pr_streq (xs := [112#8, 48#8, 46#8, 114#8, 48#8, 46#8, 97#8, 48#8, 46#8, 116#8, 48#8, 46#8, 105#8, 48#8]) (ys := [112#8, 48#8, 46#8, 114#8, 48#8, 46#8, 97#8, 48#8, 46#8, 116#8, 48#8, 46#8, 105#8, 48#8]) rfl rfl kr) rfl rfl ?_
 refine lm rfl rfl rfl rfl rfl ?_
 refine T_slot 4 _ (.bool true) rfl (congrArg _ (by simp)) ?_
 refine lo rfl (pr_build (qs := [(0, (b8 (1#8)))]) (v := .agg ([1#8, 0#8, 0#8, 0#8, 0#8, 0#8, 0#8, 0#8, 0#8, 0#8, 0#8, 0#8, 0#8, 0#8, 0#8, 0#8, 0#8, 0#8, 0#8, 0#8, 0#8, 0#8, 0#8, 0#8, 0#8, 0#8, 0#8, 0#8, 0#8, 0#8, 0#8, 0#8].map b8).toArray) (fun _ => by kernel_rfl) rfl rfl) rfl rfl ?_
 refine L_op rfl (op_cn (fun w hw => kjob_f [1#8, 0#8, 0#8, 0#8, 0#8, 0#8, 0#8, 0#8, 0#8, 0#8, 0#8, 0#8, 0#8, 0#8, 0#8, 0#8, 0#8, 0#8, 0#8, 0#8, 0#8, 0#8, 0#8, 0#8, 0#8, 0#8, 0#8, 0#8, 0#8, 0#8, 0#8, 0#8] (2#64) w (hok_nil w) (by first | assumption | exact sd)) (enters_of Tryd.func14 kr rfl) rfl rfl rfl rfl rfl (fun t4 q5 => ?_))
 refine lo rfl (pr_build (qs := [(0, (b8 (1#8)))]) (v := .agg ([1#8, 0#8, 0#8, 0#8, 0#8, 0#8, 0#8, 0#8, 0#8, 0#8, 0#8, 0#8, 0#8, 0#8, 0#8, 0#8, 0#8, 0#8, 0#8, 0#8, 0#8, 0#8, 0#8, 0#8, 0#8, 0#8, 0#8, 0#8, 0#8, 0#8, 0#8, 0#8].map b8).toArray) (fun _ => by kernel_rfl) rfl rfl) rfl rfl ?_
 refine L_op rfl (op_cn (fun w hw => rjob_f [1#8, 0#8, 0#8, 0#8, 0#8, 0#8, 0#8, 0#8, 0#8, 0#8, 0#8, 0#8, 0#8, 0#8, 0#8, 0#8, 0#8, 0#8, 0#8, 0#8, 0#8, 0#8, 0#8, 0#8, 0#8, 0#8, 0#8, 0#8, 0#8, 0#8, 0#8, 0#8] (2#64) w (hok_nil w) (by first | assumption | exact sd)) (enters_of Tryd.func19 kr rfl) rfl rfl rfl rfl rfl (fun t6 q7 => ?_))
 refine lo rfl (pr_eqagg (bo := .eql) (c := ((kof [1#8, 0#8, 0#8, 0#8, 0#8, 0#8, 0#8, 0#8, 0#8, 0#8, 0#8, 0#8, 0#8, 0#8, 0#8, 0#8, 0#8, 0#8, 0#8, 0#8, 0#8, 0#8, 0#8, 0#8, 0#8, 0#8, 0#8, 0#8, 0#8, 0#8, 0#8, 0#8] ([106#8, 111#8, 98#8] ++ eights [(2#64)])) == (kof [1#8, 0#8, 0#8, 0#8, 0#8, 0#8, 0#8, 0#8, 0#8, 0#8, 0#8, 0#8, 0#8, 0#8, 0#8, 0#8, 0#8, 0#8, 0#8, 0#8, 0#8, 0#8, 0#8, 0#8, 0#8, 0#8, 0#8, 0#8, 0#8, 0#8, 0#8, 0#8] ([106#8, 111#8, 98#8] ++ eights [(2#64)])))) (r := ((kof [1#8, 0#8, 0#8, 0#8, 0#8, 0#8, 0#8, 0#8, 0#8, 0#8, 0#8, 0#8, 0#8, 0#8, 0#8, 0#8, 0#8, 0#8, 0#8, 0#8, 0#8, 0#8, 0#8, 0#8, 0#8, 0#8, 0#8, 0#8, 0#8, 0#8, 0#8, 0#8] ([106#8, 111#8, 98#8] ++ eights [(2#64)])) == (kof [1#8, 0#8, 0#8, 0#8, 0#8, 0#8, 0#8, 0#8, 0#8, 0#8, 0#8, 0#8, 0#8, 0#8, 0#8, 0#8, 0#8, 0#8, 0#8, 0#8, 0#8, 0#8, 0#8, 0#8, 0#8, 0#8, 0#8, 0#8, 0#8, 0#8, 0#8, 0#8] ([106#8, 111#8, 98#8] ++ eights [(2#64)])))) (eqb8 (xs := (kof [1#8, 0#8, 0#8, 0#8, 0#8, 0#8, 0#8, 0#8, 0#8, 0#8, 0#8, 0#8, 0#8, 0#8, 0#8, 0#8, 0#8, 0#8, 0#8, 0#8, 0#8, 0#8, 0#8, 0#8, 0#8, 0#8, 0#8, 0#8, 0#8, 0#8, 0#8, 0#8] ([106#8, 111#8, 98#8] ++ eights [(2#64)]))) (ys := (kof [1#8, 0#8, 0#8, 0#8, 0#8, 0#8, 0#8, 0#8, 0#8, 0#8, 0#8, 0#8, 0#8, 0#8, 0#8, 0#8, 0#8, 0#8, 0#8, 0#8, 0#8, 0#8, 0#8, 0#8, 0#8, 0#8, 0#8, 0#8, 0#8, 0#8, 0#8, 0#8] ([106#8, 111#8, 98#8] ++ eights [(2#64)]))) Tryd.underlying34 Tryd.underlying5 kr sd sd) kr rfl rfl rfl rfl rfl) rfl rfl ?_
 refine lo rfl (pr_pick_t rfl rfl rfl) rfl rfl ?_
 refine la rfl rfl rfl rfl rfl ?_
 refine L_nil ?_
 refine T_ret ?_
 refine T_slot 0 _ (.bool true) rfl (by simp) ?_
 exact T_fin () (by first | trivial | omega | (simp; done)) (res1 rfl rfl) [] ⟨by decide, rfl⟩ rfl
end Go.Proofs.YtlplpmkdebemnaaDoor
namespace Go.Proofs.YtlplpmkdebemnaaDoor
set_option linter.unusedVariables false
set_option linter.unusedSimpArgs false
open Bv Fw
theorem ath_nil {k : Nat} (j : Nat) : ath ([] : List (BitVec k)) j = 0 := by simp [ath]
theorem ath_cons0 {k : Nat} (x : BitVec k) (xs : List (BitVec k)) : ath (x :: xs) 0 = x := rfl
theorem ath_consS {k : Nat} (x : BitVec k) (xs : List (BitVec k)) (j : Nat) : ath (x :: xs) (j + 1) = ath xs j := by simp [ath]
theorem ath_over {k : Nat} (xs : List (BitVec k)) (j : Nat) (h : xs.length ≤ j) : ath xs j = 0 := by simp [ath, List.getD_eq_getElem?_getD, h]
theorem ath_rng {k : Nat} (f : Nat → BitVec k) (n j : Nat) (h : j < n) : ath ((List.range n).map f) j = f j := by
  rw [ath_get _ _ (by simpa using h)]; simp
theorem take_succ_ath {k : Nat} (xs : List (BitVec k)) (j : Nat) (h : j < xs.length) : xs.take (j + 1) = xs.take j ++ [ath xs j] := by
  rw [List.take_add_one, List.getElem?_eq_getElem h, ath_get xs j h]; rfl
/-- The number of places of a byte each, the lowest first. -/
def vw {k : Nat} : List (BitVec k) → Nat
  | [] => 0
  | x :: xs => x.toNat + 256 * vw xs
theorem vw_nil {k : Nat} : vw ([] : List (BitVec k)) = 0 := rfl
theorem vw_cons {k : Nat} (x : BitVec k) (xs : List (BitVec k)) : vw (x :: xs) = x.toNat + 256 * vw xs := rfl
theorem vw_app {k : Nat} : ∀ (xs ys : List (BitVec k)), vw (xs ++ ys) = vw xs + 256 ^ xs.length * vw ys
  | [], ys => by simp [vw]
  | x :: xs, ys => by
    rw [List.cons_append, vw, vw, vw_app xs ys, List.length_cons, Nat.pow_succ, Nat.mul_add, Nat.mul_comm (256 ^ xs.length) 256, Nat.mul_assoc]
    omega
theorem vw_take_succ {k : Nat} (xs : List (BitVec k)) (j : Nat) (h : j < xs.length) : vw (xs.take (j + 1)) = vw (xs.take j) + 256 ^ j * (ath xs j).toNat := by
  rw [take_succ_ath xs j h, vw_app, List.length_take, Nat.min_eq_left (by omega), vw_cons, vw_nil]; simp
theorem vw_lt : ∀ (xs : List (BitVec 8)), vw xs < 256 ^ xs.length
  | [] => by simp [vw]
  | x :: xs => by
    have h1 := vw_lt xs
    have h2 := x.isLt
    rw [vw, List.length_cons, Nat.pow_succ]
    omega
theorem vw_set {k : Nat} : ∀ (xs : List (BitVec k)) (j : Nat) (v : BitVec k), j < xs.length → vw (xs.set j v) + 256 ^ j * (ath xs j).toNat = vw xs + 256 ^ j * v.toNat
  | [], j, v, h => by simp at h
  | x :: xs, 0, v, h => by simp [vw, ath_cons0]; omega
  | x :: xs, j + 1, v, h => by
    have h1 := vw_set xs j v (by simpa using h)
    rw [List.set_cons_succ, vw, vw, ath_consS, Nat.pow_succ, Nat.mul_comm (256 ^ j) 256, Nat.mul_assoc, Nat.mul_assoc]
    omega
theorem vw_rep0 {k : Nat} : ∀ n, vw (List.replicate n (0 : BitVec k)) = 0
  | 0 => rfl
  | n + 1 => by rw [List.replicate_succ, vw, vw_rep0 n]; simp
/-- The first n places of a number. -/
def dig (k n v : Nat) : List (BitVec k) := (List.range n).map fun i => BitVec.ofNat k (v / 256 ^ i % 256)
theorem dig_len (k n v : Nat) : (dig k n v).length = n := by simp [dig]
theorem dig_at (k n v j : Nat) (h : j < n) : ath (dig k n v) j = BitVec.ofNat k (v / 256 ^ j % 256) := ath_rng _ _ _ h
theorem dig_at_nat (k n v j : Nat) (hk : 8 ≤ k) (h : j < n) : (ath (dig k n v) j).toNat = v / 256 ^ j % 256 := by
  rw [dig_at k n v j h, BitVec.toNat_ofNat]
  refine Nat.mod_eq_of_lt (Nat.lt_of_lt_of_le (Nat.mod_lt _ (by omega)) ?_)
  exact Nat.pow_le_pow_right (n := 2) (by omega) hk
theorem mod_pow_succ (v j : Nat) : v % 256 ^ (j + 1) = v % 256 ^ j + 256 ^ j * (v / 256 ^ j % 256) := by
  rw [Nat.pow_succ, Nat.mod_mul]
theorem vw_dig_take (k n v : Nat) (hk : 8 ≤ k) : ∀ j, j ≤ n → vw ((dig k n v).take j) = v % 256 ^ j
  | 0, _ => by simp [vw, Nat.mod_one]
  | j + 1, h => by
    rw [vw_take_succ _ _ (by rw [dig_len]; omega), vw_dig_take k n v hk j (by omega), dig_at_nat k n v j hk (by omega), mod_pow_succ]
theorem vw_dig (k n v : Nat) (hk : 8 ≤ k) : vw (dig k n v) = v % 256 ^ n := by
  have := vw_dig_take k n v hk n (Nat.le_refl _)
  rwa [List.take_of_length_le (by rw [dig_len]; omega)] at this
/-- Bytes are the places of their number. -/
theorem dig_vw : ∀ (xs : List (BitVec 8)) (n : Nat), xs.length = n → dig 8 n (vw xs) = xs := by
  intro xs n hn
  refine ext_ath (by rw [dig_len, hn]) (fun j hj => ?_)
  rw [dig_len] at hj
  apply BitVec.eq_of_toNat_eq
  rw [dig_at_nat 8 n _ j (by omega) hj]
  have hp : 0 < 256 ^ j := Nat.pow_pos (by omega)
  have h1 : vw xs = vw (xs.take j) + 256 ^ j * ((ath xs j).toNat + 256 * vw (xs.drop (j + 1))) := by
    have e : xs = xs.take j ++ (ath xs j :: xs.drop (j + 1)) := by
      rw [ath_get xs j (by omega), ← List.drop_eq_getElem_cons (by omega), List.take_append_drop]
    rw [← vw_cons]
    conv => lhs; rw [e, vw_app, List.length_take, Nat.min_eq_left (by omega)]
  have h2 : vw (xs.take j) < 256 ^ j := by
    have := vw_lt (xs.take j)
    rwa [List.length_take, Nat.min_eq_left (by omega)] at this
  rw [h1, Nat.add_mul_div_left _ _ hp, Nat.div_eq_of_lt h2]
  have := (ath xs j).isLt
  omega
theorem dig_mod (k n v m : Nat) (h : n ≤ m) : dig k n (v % 256 ^ m) = dig k n v := by
  refine ext_ath (by rw [dig_len, dig_len]) (fun j hj => ?_)
  rw [dig_len] at hj
  rw [dig_at _ _ _ _ hj, dig_at _ _ _ _ hj]
  congr 1
  obtain ⟨d, rfl⟩ : ∃ d, m = j + 1 + d := ⟨m - j - 1, by omega⟩
  rw [Nat.pow_add, Nat.mod_mul, Nat.pow_succ]
  have hp : 0 < 256 ^ j := Nat.pow_pos (by omega)
  generalize v / (256 ^ j * 256) % 256 ^ d = q
  rw [Nat.mul_assoc, Nat.add_mul_div_left _ _ hp, Nat.mod_mul, Nat.add_mul_div_left _ _ hp, Nat.div_eq_of_lt (Nat.mod_lt _ hp)]
  omega
theorem dig_app (n m a b : Nat) (ha : a < 256 ^ n) : dig 8 n a ++ dig 8 m b = dig 8 (n + m) (a + 256 ^ n * b) := by
  have hl : (dig 8 n a ++ dig 8 m b).length = n + m := by simp [dig_len]
  rw [← dig_vw _ _ hl, vw_app, vw_dig _ _ _ (by omega), vw_dig _ _ _ (by omega), dig_len, Nat.mod_eq_of_lt ha]
  rw [← dig_mod 8 (n + m) (a + 256 ^ n * b) (n + m) (Nat.le_refl _), ← dig_mod 8 (n + m) (a + 256 ^ n * (b % 256 ^ m)) (n + m) (Nat.le_refl _)]
  congr 1
  rw [Nat.pow_add, Nat.mod_mul, Nat.mod_mul]
  have hp : 0 < 256 ^ n := Nat.pow_pos (by omega)
  rw [Nat.add_mul_mod_self_left, Nat.add_mul_mod_self_left, Nat.add_mul_div_left _ _ hp, Nat.add_mul_div_left _ _ hp, Nat.div_eq_of_lt ha]
  simp
theorem lowb_dig (v : BitVec 64) : ∀ k, k ≤ 8 → lowb v k = dig 8 k v.toNat := by
  intro k hk
  have hat : ∀ n j, j < n → ath (lowb v n) j = (v >>> (8 * j)).setWidth 8 := by
    intro n
    induction n with
    | zero => intro j hj; omega
    | succ n ih =>
      intro j hj
      rw [lowb]
      by_cases h : j < n
      · rw [ath_app_l _ _ _ (by rw [lowb_len]; exact h), ih j h]
      · obtain rfl : j = n := by omega
        rw [ath_app_r _ _ _ (by rw [lowb_len]; omega), lowb_len, Nat.sub_self]; rfl
  refine ext_ath (by rw [lowb_len, dig_len]) (fun j hj => ?_)
  rw [lowb_len] at hj
  rw [hat k j hj, dig_at _ _ _ _ hj]
  apply BitVec.eq_of_toNat_eq
  rw [BitVec.toNat_setWidth, BitVec.toNat_ushiftRight, BitVec.toNat_ofNat, Nat.shiftRight_eq_div_pow, Nat.pow_mul]
  simp
theorem low_toNat (xs : List (BitVec 8)) : ∀ k, k ≤ 8 → k ≤ xs.length → (low xs k).toNat = vw (xs.take k)
  | 0, _, _ => by simp [low, vw]
  | k + 1, h8, hl => by
    have ih := low_toNat xs k (by omega) (by omega)
    have hlt : vw (xs.take k) < 2 ^ (8 * k) := by
      have := vw_lt (xs.take k)
      rw [List.length_take, Nat.min_eq_left (by omega)] at this
      rw [Nat.pow_mul]; exact this
    have hb := (ath xs k).isLt
    have hpp : (2 : Nat) ^ (8 * k) * 256 ≤ 2 ^ 64 := by
      rw [show (256 : Nat) = 2 ^ 8 from rfl, ← Nat.pow_add]
      exact Nat.pow_le_pow_right (by omega) (by omega)
    have hs : (ath xs k).toNat <<< (8 * k) < 2 ^ 64 := by
      rw [Nat.shiftLeft_eq]
      refine Nat.lt_of_lt_of_le ?_ hpp
      rw [Nat.mul_comm]
      exact Nat.mul_lt_mul_of_pos_left hb (Nat.pow_pos (by omega))
    have hw : ((ath xs k).setWidth 64).toNat = (ath xs k).toNat := by rw [BitVec.toNat_setWidth]; exact Nat.mod_eq_of_lt (by omega)
    rw [low, BitVec.toNat_or, BitVec.toNat_shiftLeft, hw, Nat.mod_eq_of_lt hs, ih, vw_take_succ xs k (by omega), Nat.or_comm, ← Nat.shiftLeft_add_eq_or_of_lt hlt, Nat.shiftLeft_eq, Nat.pow_mul]
    have : (2 : Nat) ^ 8 = 256 := rfl
    rw [this, Nat.mul_comm]; omega
theorem vw_take16 (xs : List (BitVec 8)) (n : Nat) (h : 16 ≤ xs.length) : vw (xs.take 16) = (low xs 8).toNat + 2 ^ 64 * (low (xs.drop 8) 8).toNat := by
  rw [low_toNat xs 8 (by omega) (by omega), low_toNat (xs.drop 8) 8 (by omega) (by simp; omega)]
  have e : xs.take 16 = xs.take 8 ++ (xs.drop 8).take 8 := by rw [← List.take_add]
  rw [e, vw_app, List.length_take, Nat.min_eq_left (by omega)]
/-! The tag. -/
def polyP : Nat := 1361129467683753853853498429727072845819
theorem polyP_eq : polyP = 2 ^ 130 - 5 := rfl
/-- A key's first half without the bits that may not be. -/
def clampb (key : List (BitVec 8)) : List (BitVec 8) := (List.range 16).map fun i => if i % 4 = 3 then ath key i &&& 15#8 else if i = 4 ∨ i = 8 ∨ i = 12 then ath key i &&& 252#8 else ath key i
theorem clampb_len (key : List (BitVec 8)) : (clampb key).length = 16 := by simp [clampb]
theorem clampb_at (key : List (BitVec 8)) (j : Nat) (h : j < 16) : ath (clampb key) j = if j % 4 = 3 then ath key j &&& 15#8 else if j = 4 ∨ j = 8 ∨ j = 12 then ath key j &&& 252#8 else ath key j := ath_rng _ _ _ h
def pr (key : List (BitVec 8)) : Nat := vw (clampb key)
def ps (key : List (BitVec 8)) : Nat := vw ((key.drop 16).take 16)
/-- The number of a piece, with a byte 1 behind. -/
def pv (b : List (BitVec 8)) : Nat := vw b + 256 ^ b.length
def pblk (t : List (BitVec 8)) (k : Nat) : List (BitVec 8) := (t.drop (16 * k)).take 16
/-- The sum behind k pieces. -/
def pacc (r : Nat) (t : List (BitVec 8)) : Nat → Nat
  | 0 => 0
  | k + 1 => (pacc r t k + pv (pblk t k)) * r % polyP
theorem pacc_zero (r : Nat) (t : List (BitVec 8)) : pacc r t 0 = 0 := rfl
theorem pacc_succ (r : Nat) (t : List (BitVec 8)) (k : Nat) : pacc r t (k + 1) = (pacc r t k + pv (pblk t k)) * r % polyP := rfl
theorem pacc_lt (r : Nat) (t : List (BitVec 8)) : ∀ k, pacc r t k < polyP
  | 0 => by rw [pacc]; decide
  | k + 1 => Nat.mod_lt _ (by decide)
def ptag (key t : List (BitVec 8)) : List (BitVec 8) := dig 8 16 (pacc (pr key) t ((t.length + 15) / 16) + ps key)
theorem ptag_def (key t : List (BitVec 8)) : ptag key t = dig 8 16 (pacc (pr key) t ((t.length + 15) / 16) + ps key) := rfl
theorem ptag_len (key t : List (BitVec 8)) : (ptag key t).length = 16 := dig_len _ _ _
theorem and_le_l (a b : BitVec 8) : (a &&& b).toNat ≤ b.toNat := by rw [BitVec.toNat_and]; exact Nat.and_le_right
theorem pr_lt (key : List (BitVec 8)) : pr key < 2 ^ 124 := by
  unfold pr
  have h1 : clampb key = (clampb key).take 15 ++ [ath (clampb key) 15] := by
    rw [← take_succ_ath _ _ (by rw [clampb_len]; omega), List.take_of_length_le (by rw [clampb_len]; omega)]
  have h2 := vw_lt ((clampb key).take 15)
  rw [List.length_take, clampb_len] at h2
  rw [h1, vw_app, List.length_take, clampb_len, vw_cons, vw_nil, clampb_at _ _ (by omega), if_pos (by omega)]
  have h3 := and_le_l (ath key 15) 15#8
  have h4 : (15#8).toNat = 15 := rfl
  generalize (ath key 15 &&& 15#8).toNat = z at *
  generalize vw (List.take 15 (clampb key)) = y at *
  have h5 : min 15 16 = 15 := rfl
  rw [h5] at h2 ⊢
  have h6 : (256 : Nat) ^ 15 = 1329227995784915872903807060280344576 := rfl
  have h7 : (2 : Nat) ^ 124 = 21267647932558653966460912964485513216 := rfl
  rw [h6] at *
  rw [h7]
  omega
theorem ps_lt (key : List (BitVec 8)) : ps key < 2 ^ 128 := by
  unfold ps
  have h := vw_lt ((key.drop 16).take 16)
  have h1 : ((key.drop 16).take 16).length ≤ 16 := by simp; omega
  refine Nat.lt_of_lt_of_le h ?_
  exact Nat.le_trans (Nat.pow_le_pow_right (by omega) h1) (by decide)
theorem pblk_len_le (t : List (BitVec 8)) (k : Nat) : (pblk t k).length ≤ 16 := by unfold pblk; simp; omega
theorem pv_lt (b : List (BitVec 8)) (h : b.length ≤ 16) : pv b < 2 ^ 129 := by
  unfold pv
  have h1 := vw_lt b
  have h2 : (256 : Nat) ^ b.length ≤ 256 ^ 16 := Nat.pow_le_pow_right (by omega) h
  have h3 : (2 : Nat) ^ 129 = 2 * 256 ^ 16 := rfl
  rw [h3]; omega
attribute [irreducible] vw dig clampb pr ps pv pblk pacc ptag polyP
end Go.Proofs.YtlplpmkdebemnaaDoor
namespace Go.Proofs.YtlplpmkdebemnaaDoor
set_option linter.unusedVariables false
set_option linter.unusedSimpArgs false
set_option linter.unnecessarySimpa false
set_option maxRecDepth 100000
open Go.RowKit Bv Fw

theorem low_lowb (v : BitVec 64) : low (lowb v 8) 8 = v := by
  apply BitVec.eq_of_toNat_eq
  rw [low_toNat _ 8 (by omega) (by rw [lowb_len]; omega), List.take_of_length_le (by rw [lowb_len]; omega), lowb_dig v 8 (by omega), vw_dig 8 8 _ (by omega)]
  have := v.isLt
  have p8 : (256 : Nat) ^ 8 = 18446744073709551616 := rfl
  omega
theorem low_lowb4 (v : BitVec 64) (h : v.toNat < 4294967296) : low (lowb v 4) 4 = v := by
  apply BitVec.eq_of_toNat_eq
  rw [low_toNat _ 4 (by omega) (by rw [lowb_len]; omega), List.take_of_length_le (by rw [lowb_len]; omega), lowb_dig v 4 (by omega), vw_dig 8 4 _ (by omega)]
  have p4 : (256 : Nat) ^ 4 = 4294967296 := rfl
  omega
theorem eights_inj : ∀ {xs ys : List (BitVec 64)}, xs.length = ys.length → eights xs = eights ys → xs = ys
  | [], [], _, _ => rfl
  | x :: xs, y :: ys, hl, h => by
    rw [eights, eights] at h
    obtain ⟨h1, h2⟩ := List.append_inj h (by rw [lowb_len, lowb_len])
    have h3 : x = y := by rw [← low_lowb x, h1, low_lowb]
    rw [h3, eights_inj (by simpa using hl) h2]
theorem i64_inj {x y : BitVec 64} (h : i64 x = i64 y) : x = y := BitVec.toInt_inj.1 h
/-- What a numeral says. -/
def dv (l : List (BitVec 8)) : Nat := l.foldl (fun n c => 10 * n + (c.toNat - 48)) 0
theorem dv_app (l : List (BitVec 8)) (c : BitVec 8) : dv (l ++ [c]) = 10 * dv l + (c.toNat - 48) := by unfold dv; rw [List.foldl_append]; rfl
theorem dv_decb (u : Nat) : dv (decb u) = u := by
  induction u using Nat.strongRecOn with
  | _ u ih =>
    by_cases h : u < 10
    · rw [decb_small h]
      show 10 * 0 + ((BitVec.ofNat 8 (48 + u)).toNat - 48) = u
      rw [BitVec.toNat_ofNat]; omega
    · rw [decb_big h, dv_app, ih (u / 10) (by omega), BitVec.toNat_ofNat]; omega
theorem decb_chars (u : Nat) : ∀ c ∈ decb u, 48 ≤ c.toNat ∧ c.toNat < 58 := by
  induction u using Nat.strongRecOn with
  | _ u ih =>
    intro c hc
    by_cases h : u < 10
    · rw [decb_small h, List.mem_singleton] at hc
      subst hc; rw [BitVec.toNat_ofNat]; omega
    · rw [decb_big h, List.mem_append, List.mem_singleton] at hc
      rcases hc with hc | rfl
      · exact ih (u / 10) (by omega) c hc
      · rw [BitVec.toNat_ofNat]; omega
theorem decb_dot (u : Nat) : ∀ c ∈ decb u, c ≠ 46#8 := fun c hc e => by
  have := decb_chars u c hc
  subst e; have h46 : (46#8).toNat = 46 := rfl; omega
theorem itob_dot (z : Int) : ∀ c ∈ itob z, c ≠ 46#8 := fun c hc => by
  by_cases h : z < 0
  · rw [itob_neg h, List.mem_cons] at hc
    rcases hc with rfl | hc
    · decide
    · exact decb_dot _ c hc
  · rw [itob_pos h] at hc; exact decb_dot _ c hc
theorem decb_inj {u v : Nat} (h : decb u = decb v) : u = v := by rw [← dv_decb u, h, dv_decb]
theorem itob_inj {x y : Int} (h : itob x = itob y) : x = y := by
  have no : ∀ (l : List (BitVec 8)) (n : Nat), 45#8 :: l = decb n → False := fun l n e => by
    have := decb_chars n 45#8 (by rw [← e]; simp)
    have h45 : (45#8).toNat = 45 := rfl
    omega
  by_cases hx : x < 0
  · by_cases hy : y < 0
    · rw [itob_neg hx, itob_neg hy] at h
      have := decb_inj (List.cons.inj h).2
      omega
    · rw [itob_neg hx, itob_pos hy] at h; exact (no _ _ h).elim
  · by_cases hy : y < 0
    · rw [itob_pos hx, itob_neg hy] at h; exact (no _ _ h.symm).elim
    · rw [itob_pos hx, itob_pos hy] at h
      have := decb_inj h
      omega
theorem split46 : ∀ (xs ys : List (BitVec 8)) {u v : List (BitVec 8)}, (∀ c ∈ xs, c ≠ 46#8) → (∀ c ∈ ys, c ≠ 46#8) → xs ++ 46#8 :: u = ys ++ 46#8 :: v → xs = ys ∧ u = v
  | [], [], u, v, _, _, h => ⟨rfl, (List.cons.inj h).2⟩
  | [], y :: ys, u, v, _, hy, h => (hy y (by simp) (List.cons.inj h).1.symm).elim
  | x :: xs, [], u, v, hx, _, h => (hx x (by simp) (List.cons.inj h).1).elim
  | x :: xs, y :: ys, u, v, hx, hy, h => by
    obtain ⟨h1, h2⟩ := List.cons.inj h
    obtain ⟨h3, h4⟩ := split46 xs ys (fun c hc => hx c (List.mem_cons_of_mem _ hc)) (fun c hc => hy c (List.mem_cons_of_mem _ hc)) h2
    exact ⟨by rw [h1, h3], h4⟩
theorem pname_inj {a b c d e a' b' c' d' e' : List (BitVec 8)} (ha : ∀ x ∈ a, x ≠ 46#8) (hb : ∀ x ∈ b, x ≠ 46#8) (hc : ∀ x ∈ c, x ≠ 46#8) (hd : ∀ x ∈ d, x ≠ 46#8) (ha' : ∀ x ∈ a', x ≠ 46#8) (hb' : ∀ x ∈ b', x ≠ 46#8) (hc' : ∀ x ∈ c', x ≠ 46#8) (hd' : ∀ x ∈ d', x ≠ 46#8)
    (h : pname a b c d e = pname a' b' c' d' e') : a = a' ∧ b = b' ∧ c = c' ∧ d = d' ∧ e = e' := by
  have form : ∀ a b c d e, pname a b c d e = 112#8 :: (a ++ 46#8 :: 114#8 :: (b ++ 46#8 :: 97#8 :: (c ++ 46#8 :: 116#8 :: (d ++ 46#8 :: 105#8 :: e)))) := fun a b c d e => by rw [pname_eq]; simp
  rw [form, form] at h
  obtain ⟨h1, h⟩ := split46 _ _ ha ha' (List.cons.inj h).2
  obtain ⟨h2, h⟩ := split46 _ _ hb hb' (List.cons.inj h).2
  obtain ⟨h3, h⟩ := split46 _ _ hc hc' (List.cons.inj h).2
  obtain ⟨h4, h⟩ := split46 _ _ hd hd' (List.cons.inj h).2
  exact ⟨h1, h2, h3, h4, (List.cons.inj h).2⟩
theorem name_apart (pp pr pa pt pi qp qr qa qt qi : BitVec 64) : (decide ((pname (itob (i64 pp)) (itob (i64 pr)) (itob (i64 pa)) (decb pt.toNat) (itob (i64 pi))) = (pname (itob (i64 qp)) (itob (i64 qr)) (itob (i64 qa)) (decb qt.toNat) (itob (i64 qi)))) == ((i64 pp == i64 qp) && ((i64 pr == i64 qr) && ((i64 pa == i64 qa) && ((pt == qt) && ((i64 pi == i64 qi) && true)))))) = true := by
  rw [beq_iff_eq, Bool.eq_iff_iff]
  simp only [decide_eq_true_eq, Bool.and_eq_true, beq_iff_eq, and_true]
  constructor
  · intro h
    obtain ⟨h1, h2, h3, h4, h5⟩ := pname_inj (itob_dot _) (itob_dot _) (itob_dot _) (decb_dot _) (itob_dot _) (itob_dot _) (itob_dot _) (decb_dot _) h
    exact ⟨itob_inj h1, itob_inj h2, itob_inj h3, BitVec.eq_of_toNat_eq (decb_inj h4), itob_inj h5⟩
  · rintro ⟨h1, h2, h3, h4, h5⟩
    rw [h1, h2, h3, h4, h5]
theorem aad_apart (pp pr pa pt pi qp qr qa qt qi : BitVec 64) (s : BitVec 64) : (decide (eights [pp, pr, pa, pt, pi, s] = eights [qp, qr, qa, qt, qi, s]) == ((i64 pp == i64 qp) && ((i64 pr == i64 qr) && ((i64 pa == i64 qa) && ((pt == qt) && ((i64 pi == i64 qi) && true)))))) = true := by
  rw [beq_iff_eq, Bool.eq_iff_iff]
  simp only [decide_eq_true_eq, Bool.and_eq_true, beq_iff_eq, and_true]
  constructor
  · intro h
    have := eights_inj (show [pp, pr, pa, pt, pi, s].length = [qp, qr, qa, qt, qi, s].length from rfl) h
    simp only [List.cons.injEq, and_true] at this
    obtain ⟨h1, h2, h3, h4, h5⟩ := this
    exact ⟨by rw [h1], by rw [h2], by rw [h3], h4, by rw [h5]⟩
  · rintro ⟨h1, h2, h3, h4, h5⟩
    rw [i64_inj h1, i64_inj h2, i64_inj h3, h4, i64_inj h5]
theorem nonc_inj {a b i k : BitVec 64} (hi : i.toNat < 4294967296) (hk : k.toNat < 4294967296) (h : nonc a i = nonc b k) : a = b ∧ i = k := by
  rw [← nonc_def, ← nonc_def] at h
  obtain ⟨h1, h2⟩ := List.append_inj h (by rw [lowb_len, lowb_len])
  exact ⟨by rw [← low_lowb a, h1, low_lowb], by rw [← low_lowb4 i hi, h2, low_lowb4 k hk]⟩
theorem nonc_yes {a b i k : BitVec 64} (hi : i.toNat < 4294967296) (hk : k.toNat < 4294967296) (hab : a = b) : ((nonc a i == nonc b k) == (i64 i == i64 k)) = true := by
  subst hab
  rw [beq_iff_eq, Bool.eq_iff_iff, beq_iff_eq, beq_iff_eq]
  exact ⟨fun h => by rw [(nonc_inj hi hk h).2], fun h => by rw [i64_inj h]⟩
theorem nonc_no {a b i k : BitVec 64} (hi : i.toNat < 4294967296) (hk : k.toNat < 4294967296) (hab : ¬ a = b) : ((nonc a i == nonc b k) == false) = true := by
  rw [beq_iff_eq, beq_eq_false_iff_ne]
  exact fun h => hab (nonc_inj hi hk h).1
theorem small32 (x : BitVec 32) : ∃ y : BitVec 64, ((x.toNat : Nat) : Int) = i64 y ∧ y.toNat < 4294967296 := by
  have hx := x.isLt
  refine ⟨BitVec.ofNat 64 x.toNat, ?_, by rw [BitVec.toNat_ofNat]; omega⟩
  unfold i64
  rw [BitVec.toInt_eq_toNat_of_lt (by rw [BitVec.toNat_ofNat]; omega), BitVec.toNat_ofNat, Nat.mod_eq_of_lt (by omega)]

set_option maxRecDepth 100000 in
set_option maxHeartbeats 4000000 in
theorem keysApart_f (pp : BitVec 64) (pr : BitVec 64) (pa : BitVec 64) (pt : BitVec 64) (pi : BitVec 64) (qp : BitVec 64) (qr : BitVec 64) (qa : BitVec 64) (qt : BitVec 64) (qi : BitVec 64) (na : BitVec 64) (nb : BitVec 64) (ni : BitVec 64) (nk : BitVec 64) (w : World) (hO : HOK [] w) (htab : Tab w) : Calls Tryd.prog 3 [(.agg [(.int .i64 (i64 pp)), (.int .i64 (i64 pr)), (.int .i64 (i64 pa)), (b64 pt), (.int .i64 (i64 pi))].toArray), (.agg [(.int .i64 (i64 qp)), (.int .i64 (i64 qr)), (.int .i64 (i64 qa)), (b64 qt), (.int .i64 (i64 qi))].toArray), (b64 na), (b64 nb), (.int .i64 (i64 ni)), (.int .i64 (i64 nk))].toArray w (Ret (T := Unit) [] w (fun _ => True) (fun _ => (.bool true)) (fun _ => [])) := by
 have hn1 := fun a i => nonc_len a i
 have hF : Wid Fence.wide := wid_wide
 refine enter (c := _) Tryd.func3 rfl [] _ [] (by rw [Tryd.ntmps3]; rfl) (own_rds hO rfl) ?_
 rw [Tryd.ntmps3]
 refine T_re [(0, (.agg [(.int .i64 (i64 pp)), (.int .i64 (i64 pr)), (.int .i64 (i64 pa)), (b64 pt), (.int .i64 (i64 pi))].toArray)), (1, (.agg [(.int .i64 (i64 qp)), (.int .i64 (i64 qr)), (.int .i64 (i64 qa)), (b64 qt), (.int .i64 (i64 qi))].toArray)), (2, (b64 na)), (3, (b64 nb)), (4, (.int .i64 (i64 ni))), (5, (.int .i64 (i64 nk)))] (sc rfl (sc rfl (sc rfl (sc rfl (sc rfl (sc rfl sn)))))) ?_
 refine T_he [] [] ⟨by decide, rfl⟩ ?_
 refine Tsr hF rfl ?_
 refine L_op rfl (op_box (zs := [(.int .i64 (i64 pp)), (.int .i64 (i64 pr)), (.int .i64 (i64 pa)), (b64 pt), (.int .i64 (i64 pi))]) rfl rfl rfl rfl rfl (fun g1 => ?_))
 refine L_op rfl (op_box (zs := [(.int .i64 (i64 qp)), (.int .i64 (i64 qr)), (.int .i64 (i64 qa)), (b64 qt), (.int .i64 (i64 qi))]) rfl rfl rfl rfl rfl (fun g2 => ?_))
 refine la rfl rfl rfl rfl rfl ?_
 refine L_nil ?_
 refine Tsr hF rfl ?_
 refine lm rfl rfl rfl rfl rfl ?_
 refine lo rfl (pr_cv (zc_u32 (i64 ni)) Tryd.underlying3 Tryd.underlying25 rfl rfl) rfl rfl ?_
 refine lo rfl (pr_cv (n32i ) Tryd.underlying25 Tryd.underlying3 rfl rfl) rfl rfl ?_
 obtain ⟨mi, hmi, bmi⟩ := small32 (BitVec.ofInt 32 (i64 ni))
 refine T_slot 15 (.int .i64 (((BitVec.ofInt 32 (i64 ni)).toNat : Nat) : Int)) (.int .i64 (i64 mi)) rfl (by rw [hmi]) ?_
 refine lm rfl rfl rfl rfl rfl ?_
 refine lo rfl (pr_cv (zc_u32 (i64 nk)) Tryd.underlying3 Tryd.underlying25 rfl rfl) rfl rfl ?_
 refine lo rfl (pr_cv (n32i ) Tryd.underlying25 Tryd.underlying3 rfl rfl) rfl rfl ?_
 obtain ⟨mk, hmk, bmk⟩ := small32 (BitVec.ofInt 32 (i64 nk))
 refine T_slot 18 (.int .i64 (((BitVec.ofInt 32 (i64 nk)).toNat : Nat) : Int)) (.int .i64 (i64 mk)) rfl (by rw [hmk]) ?_
 refine la rfl rfl rfl rfl rfl ?_
 refine la rfl rfl rfl rfl rfl ?_
 refine L_nil ?_
 refine T_seq ?_
 refine T_regD [.blk g2 24 [(.int .i64 (i64 qp)), (.int .i64 (i64 qr)), (.int .i64 (i64 qa)), (b64 qt), (.int .i64 (i64 qi))], .blk g1 24 [(.int .i64 (i64 pp)), (.int .i64 (i64 pr)), (.int .i64 (i64 pa)), (b64 pt), (.int .i64 (i64 pi))]] 42 42 #[false, false, false, false, false, false, false, false, false, false, false, false, false, false, false, false, false, false, false, false, false, false, false, false, false, false, false, false, false, false, false, false, false, false, false, false, false, false, false, false, false, false] hF kr kr ?_
 refine D_one 0 _ rfl kr rfl (op_cnK (fun w hw kp => awake8_f  w (hok_nil w) (tab_keep htab kp)) (enters_of Tryd.func7 kr rfl) rfl rfl rfl rfl rfl (fun t3 q4 => ?_))
 refine D_on [0, 1] rfl ?_
 refine D_pure (i := 1) [0, 1] rfl kr rfl (pr_move rfl rfl) (.inr rfl) rfl rfl ?_
 refine D_take (i := 2) [0, 1] rfl kr rfl (ld_agg (ds := [(.int .i64 (i64 pp)), (.int .i64 (i64 pr)), (.int .i64 (i64 pa)), (b64 pt), (.int .i64 (i64 pi))]) 1 rfl agg_all Tryd.underlying24 rfl kr rfl rfl) rfl rfl rfl ?_
 refine D_take (i := 4) [0, 1] rfl kr rfl (ld_agg (ds := [(.int .i64 (i64 qp)), (.int .i64 (i64 qr)), (.int .i64 (i64 qa)), (b64 qt), (.int .i64 (i64 qi))]) 0 rfl agg_all Tryd.underlying24 rfl kr rfl rfl) rfl rfl rfl ?_
 refine D_take (i := 7) [0, 1] rfl kr rfl (ld_agg (ds := [(.int .i64 (i64 pp)), (.int .i64 (i64 pr)), (.int .i64 (i64 pa)), (b64 pt), (.int .i64 (i64 pi))]) 1 rfl agg_all Tryd.underlying24 rfl kr rfl rfl) rfl rfl rfl ?_
 refine D_take (i := 8) [0, 1] rfl kr rfl (ld_agg (ds := [(.int .i64 (i64 qp)), (.int .i64 (i64 qr)), (.int .i64 (i64 qa)), (b64 qt), (.int .i64 (i64 qi))]) 0 rfl agg_all Tryd.underlying24 rfl kr rfl rfl) rfl rfl rfl ?_
 refine D_pure (i := 9) [0, 1] rfl kr rfl (pr_eqs (bo := .eql) (c := (((i64 pp) == (i64 qp)) && (((i64 pr) == (i64 qr)) && (((i64 pa) == (i64 qa)) && ((pt == qt) && (((i64 pi) == (i64 qi)) && true)))))) (r := (((i64 pp) == (i64 qp)) && (((i64 pr) == (i64 qr)) && (((i64 pa) == (i64 qa)) && ((pt == qt) && (((i64 pi) == (i64 qi)) && true)))))) (fun _ _ => eqs Tryd.underlying24 kr (eqf rfl (part1 Tryd.underlying3 rfl rfl) (part1 Tryd.underlying3 rfl rfl) (eqv_i (a := (i64 pp)) (b := (i64 qp)) Tryd.underlying3) (eqf rfl (part1 Tryd.underlying3 rfl rfl) (part1 Tryd.underlying3 rfl rfl) (eqv_i (a := (i64 pr)) (b := (i64 qr)) Tryd.underlying3) (eqf rfl (part1 Tryd.underlying3 rfl rfl) (part1 Tryd.underlying3 rfl rfl) (eqv_i (a := (i64 pa)) (b := (i64 qa)) Tryd.underlying3) (eqf rfl (part1 Tryd.underlying22 rfl rfl) (part1 Tryd.underlying22 rfl rfl) (eqv_64 (a := pt) (b := qt) Tryd.underlying22) (eqf rfl (part1 Tryd.underlying3 rfl rfl) (part1 Tryd.underlying3 rfl rfl) (eqv_i (a := (i64 pi)) (b := (i64 qi)) Tryd.underlying3) eqf_nil)))))) kr rfl rfl rfl rfl rfl) (.inr rfl) rfl rfl ?_
 refine D_one 3 _ rfl kr rfl (op_cnK (fun w hw kp => kname_f pp pr pa pt pi w (hok_nil w) (tab_keep htab kp)) (enters_of Tryd.func8 kr rfl) rfl rfl rfl rfl rfl (fun t5 q6 => ?_))
 refine D_on [0, 1] rfl ?_
 refine D_one 5 _ rfl kr rfl (op_cnK (fun w hw kp => kname_f qp qr qa qt qi w (hok_nil w) (tab_keep htab kp)) (enters_of Tryd.func8 kr rfl) rfl rfl rfl rfl rfl (fun t7 q8 => ?_))
 refine D_on [0, 1] rfl ?_
 refine D_pure (i := 6) [0, 1] rfl kr rfl (pr_streq rfl rfl rfl) (.inr rfl) rfl rfl ?_
 refine D_pure (i := 10) [0, 1] rfl kr rfl (pr_eqb rfl Tryd.underlying4 rfl rfl rfl) (.inr rfl) rfl rfl ?_
 refine T_slot 29 _ (.bool true) rfl (congrArg Value.bool (name_apart pp pr pa pt pi qp qr qa qt qi)) ?_
 refine D_pure (i := 11) [0, 1] rfl kr rfl (pr_pick_t rfl rfl rfl) (.inr rfl) rfl rfl ?_
 refine D_pure (i := 12) [0, 1] rfl kr rfl (pr_move rfl rfl) (.inr rfl) rfl rfl ?_
 refine D_take (i := 13) [0, 1] rfl kr rfl (ld_agg (ds := [(.int .i64 (i64 pp)), (.int .i64 (i64 pr)), (.int .i64 (i64 pa)), (b64 pt), (.int .i64 (i64 pi))]) 1 rfl agg_all Tryd.underlying24 rfl kr rfl rfl) rfl rfl rfl ?_
 refine D_take (i := 15) [0, 1] rfl kr rfl (ld_agg (ds := [(.int .i64 (i64 qp)), (.int .i64 (i64 qr)), (.int .i64 (i64 qa)), (b64 qt), (.int .i64 (i64 qi))]) 0 rfl agg_all Tryd.underlying24 rfl kr rfl rfl) rfl rfl rfl ?_
 refine D_take (i := 18) [0, 1] rfl kr rfl (ld_agg (ds := [(.int .i64 (i64 pp)), (.int .i64 (i64 pr)), (.int .i64 (i64 pa)), (b64 pt), (.int .i64 (i64 pi))]) 1 rfl agg_all Tryd.underlying24 rfl kr rfl rfl) rfl rfl rfl ?_
 refine D_take (i := 19) [0, 1] rfl kr rfl (ld_agg (ds := [(.int .i64 (i64 qp)), (.int .i64 (i64 qr)), (.int .i64 (i64 qa)), (b64 qt), (.int .i64 (i64 qi))]) 0 rfl agg_all Tryd.underlying24 rfl kr rfl rfl) rfl rfl rfl ?_
 refine D_pure (i := 20) [0, 1] rfl kr rfl (pr_eqs (bo := .eql) (c := (((i64 pp) == (i64 qp)) && (((i64 pr) == (i64 qr)) && (((i64 pa) == (i64 qa)) && ((pt == qt) && (((i64 pi) == (i64 qi)) && true)))))) (r := (((i64 pp) == (i64 qp)) && (((i64 pr) == (i64 qr)) && (((i64 pa) == (i64 qa)) && ((pt == qt) && (((i64 pi) == (i64 qi)) && true)))))) (fun _ _ => eqs Tryd.underlying24 kr (eqf rfl (part1 Tryd.underlying3 rfl rfl) (part1 Tryd.underlying3 rfl rfl) (eqv_i (a := (i64 pp)) (b := (i64 qp)) Tryd.underlying3) (eqf rfl (part1 Tryd.underlying3 rfl rfl) (part1 Tryd.underlying3 rfl rfl) (eqv_i (a := (i64 pr)) (b := (i64 qr)) Tryd.underlying3) (eqf rfl (part1 Tryd.underlying3 rfl rfl) (part1 Tryd.underlying3 rfl rfl) (eqv_i (a := (i64 pa)) (b := (i64 qa)) Tryd.underlying3) (eqf rfl (part1 Tryd.underlying22 rfl rfl) (part1 Tryd.underlying22 rfl rfl) (eqv_64 (a := pt) (b := qt) Tryd.underlying22) (eqf rfl (part1 Tryd.underlying3 rfl rfl) (part1 Tryd.underlying3 rfl rfl) (eqv_i (a := (i64 pi)) (b := (i64 qi)) Tryd.underlying3) eqf_nil)))))) kr rfl rfl rfl rfl rfl) (.inr rfl) rfl rfl ?_
 refine D_one 14 _ rfl kr rfl (op_cn (fun w hw => kaad_f pp pr pa pt pi 1 w (hok_nil w) sd) (enters_of Tryd.func10 kr rfl) rfl rfl rfl rfl rfl (fun t9 q10 => ?_))
 obtain ⟨B11, d12⟩ := t9
 refine D_on [1, 2] rfl ?_
 refine D_one 16 _ rfl kr rfl (op_cn (fun w hw => kaad_f qp qr qa qt qi 1 w (hok_nil w) sd) (enters_of Tryd.func10 kr rfl) rfl rfl rfl rfl rfl (fun t13 q14 => ?_))
 obtain ⟨B15, d16⟩ := t13
 refine D_on [2, 3] rfl ?_
 refine D_one 17 _ rfl kr rfl (op_cn (fun w hw => bytes_f (eights [pp, pr, pa, pt, pi, (BitVec.ofNat 64 1)]) (eights [qp, qr, qa, qt, qi, (BitVec.ofNat 64 1)]) B11 48 d12 B15 48 d16 w (hok_cons ((src_old 1 rfl) w hw) (hok_cons ((src_old 0 rfl) w hw) (hok_nil w))) ) (enters_of Tryd.func9 kr rfl) rfl rfl rfl rfl rfl (fun t17 q18 => ?_))
 refine D_on [2, 3] rfl ?_
 refine D_pure (i := 21) [2, 3] rfl kr rfl (pr_eqb rfl Tryd.underlying4 rfl rfl rfl) (.inr rfl) rfl rfl ?_
 refine T_slot 40 _ (.bool true) rfl (congrArg Value.bool (aad_apart pp pr pa pt pi qp qr qa qt qi _)) ?_
 refine D_pure (i := 22) [2, 3] rfl kr rfl (pr_pick_t rfl rfl rfl) (.inr rfl) rfl rfl ?_
 refine D_pure (i := 23) [2, 3] rfl kr rfl (pr_move rfl rfl) (.inr rfl) rfl rfl ?_
 refine D_pure (i := 24) [2, 3] rfl kr rfl (pr_move rfl rfl) (.inr rfl) rfl rfl ?_
 refine D_pure (i := 25) [2, 3] rfl kr rfl (pr_move rfl rfl) (.inr rfl) rfl rfl ?_
 refine D_pure (i := 27) [2, 3] rfl kr rfl (pr_move rfl rfl) (.inr rfl) rfl rfl ?_
 refine D_pure (i := 28) [2, 3] rfl kr rfl (pr_move rfl rfl) (.inr rfl) rfl rfl ?_
 refine D_pure (i := 31) [2, 3] rfl kr rfl (pr_move rfl rfl) (.inr rfl) rfl rfl ?_
 refine D_pure (i := 32) [2, 3] rfl kr rfl (pr_move rfl rfl) (.inr rfl) rfl rfl ?_
 refine D_pure (i := 33) [2, 3] rfl kr rfl (pr_cmp (bo := .eql) (n64_beq na nb) rfl rfl rfl rfl) (.inr rfl) rfl rfl ?_
 refine D_one 26 _ rfl kr rfl (op_cn (fun w hw => knonce_f na mi w (hok_nil w) ) (enters_of Tryd.func11 kr rfl) rfl rfl rfl rfl rfl (fun t19 q20 => ?_))
 refine D_on [2, 3] rfl ?_
 refine D_one 29 _ rfl kr rfl (op_cn (fun w hw => knonce_f nb mk w (hok_nil w) ) (enters_of Tryd.func11 kr rfl) rfl rfl rfl rfl rfl (fun t21 q22 => ?_))
 refine D_on [2, 3] rfl ?_
 refine D_pure (i := 30) [2, 3] rfl kr rfl (pr_eqagg (bo := .eql) (c := ((nonc na mi) == (nonc nb mk))) (r := ((nonc na mi) == (nonc nb mk))) (eqb8 (xs := (nonc na mi)) (ys := (nonc nb mk)) Tryd.underlying31 Tryd.underlying5 kr sd sd) kr rfl rfl rfl rfl rfl) (.inr rfl) rfl rfl ?_
 refine D_pure (i := 34) [2, 3] rfl kr rfl (pr_move rfl rfl) (.inr rfl) rfl rfl ?_
 rcases Bool.eq_false_or_eq_true (na == nb) with hc_23 | hc_23
 ·
  refine T_slot 52 (.bool (na == nb)) (.bool true) rfl (congrArg _ hc_23) ?_
  refine T_slot 53 (.bool (na == nb)) (.bool true) rfl (congrArg _ hc_23) ?_
  have hc_23 : na = nb := by simpa using hc_23
  refine D_pure (i := 35) [2, 3] rfl kr rfl (pr_move rfl rfl) (.inr rfl) rfl rfl ?_
  refine D_pure (i := 36) [2, 3] rfl kr rfl (pr_move rfl rfl) (.inr rfl) rfl rfl ?_
  refine D_pure (i := 37) [2, 3] rfl kr rfl (pr_cmp (bo := .eql) (k := .i64) (a := (i64 mi)) (b := (i64 mk)) (c := ((i64 mi) == (i64 mk))) rfl rfl rfl rfl rfl) (.inr rfl) rfl rfl ?_
  refine D_pure (i := 38) [2, 3] rfl kr rfl (pr_pick_t rfl rfl rfl) (.inr rfl) rfl rfl ?_
  refine D_pure (i := 39) [2, 3] rfl kr rfl (pr_eqb rfl Tryd.underlying4 rfl rfl rfl) (.inr rfl) rfl rfl ?_
  refine T_slot 58 _ (.bool true) rfl (congrArg Value.bool (by first | exact nonc_yes bmi bmk (by assumption) | exact nonc_no bmi bmk (by assumption))) ?_
  refine D_pure (i := 40) [2, 3] rfl kr rfl (pr_pick_t rfl rfl rfl) (.inr rfl) rfl rfl ?_
  refine D_pure (i := 41) [2, 3] rfl kr rfl (pr_assign rfl rfl) (.inr rfl) rfl rfl ?_
  refine D_done kr ?_
  refine T_ret ?_
  exact T_fin () (by first | trivial | omega | (simp; done)) (res1 rfl rfl) [] ⟨by decide, rfl⟩ rfl
 ·
  refine T_slot 52 (.bool (na == nb)) (.bool false) rfl (congrArg _ hc_23) ?_
  refine T_slot 53 (.bool (na == nb)) (.bool false) rfl (congrArg _ hc_23) ?_
  have hc_23 : ¬ na = nb := by simpa using hc_23
  refine D_pass (i := 35) [2, 3] rfl kr rfl (.inr rfl) rfl rfl ?_
  refine D_pass (i := 36) [2, 3] rfl kr rfl (.inr rfl) rfl rfl ?_
  refine D_pass (i := 37) [2, 3] rfl kr rfl (.inr rfl) rfl rfl ?_
  refine D_pure (i := 38) [2, 3] rfl kr rfl (pr_pick_f rfl rfl rfl) (.inr rfl) rfl rfl ?_
  refine D_pure (i := 39) [2, 3] rfl kr rfl (pr_eqb rfl Tryd.underlying4 rfl rfl rfl) (.inr rfl) rfl rfl ?_
  refine T_slot 58 (.bool (((nonc na mi) == (nonc nb mk)) == false)) (.bool true) rfl (congrArg Value.bool (by first | exact nonc_yes bmi bmk (by assumption) | exact nonc_no bmi bmk (by assumption))) ?_
  refine D_pure (i := 40) [2, 3] rfl kr rfl (pr_pick_t rfl rfl rfl) (.inr rfl) rfl rfl ?_
  refine D_pure (i := 41) [2, 3] rfl kr rfl (pr_assign rfl rfl) (.inr rfl) rfl rfl ?_
  refine D_done kr ?_
  refine T_ret ?_
  exact T_fin () (by first | trivial | omega | (simp; done)) (res1 rfl rfl) [] ⟨by decide, rfl⟩ rfl
end Go.Proofs.YtlplpmkdebemnaaDoor
namespace Go.Proofs.YtlplpmkdebemnaaDoor.keysApart
open Fw Go.ChangeShapes Go.WideShapes Go.ChangeAt Go.RowKit Bv
open Go.ChangeMaps (open_string shut_string)
set_option linter.unusedVariables false
theorem own : ownKnob Tryd.prog.godebug = none := by kernel_rfl
theorem laidOut : laidOutB Tryd.prog = true := by kernel_rfl
set_option maxRecDepth 100000 in
theorem lifted (os : Os) (started : os.Started) (H : Type) (enc : TypeId × Value → H) :
    ReturnsInHanded {} Tryd.checked os 3 .any (fun w args => (Rows.keysApartSpec.pre enc Tryd.prog Tryd.f3 [] false w args ∧ laidMetH Tryd.prog laidL w) ∧ sizedMet enc Tryd.prog Tryd.f3 (OpenSpec.ofChange Rows.keysApartSpec) false w args) (Rows.keysApartSpec.post enc Tryd.prog Tryd.f3 false true false false) := by
  refine returnsInHanded_of_change_and (C := Tryd.checked) (X := fun w _ => laidMetH Tryd.prog laidL w) (fun _ _ _ hh h => laidMet.of_heap hh h) own started (by kernel_rfl) Tryd.func3
    (ChangeSpec.witness_at (enc := enc) (C := Tryd.checked) (os := os) (X := fun w _ => laidMetH Tryd.prog laidL w) false (laidWorld os) #[.agg #[.int .i64 0, .int .i64 0, .int .i64 0, .int .u64 0, .int .i64 0], .agg #[.int .i64 0, .int .i64 0, .int .i64 0, .int .u64 0, .int .i64 0], .int .u64 0, .int .u64 0, .int .i64 0, .int .i64 0] 8 rfl (by kernel_rfl) (by kernel_rfl) (by kernel_rfl) (by kernel_rfl) (by kernel_rfl) (laidWorld_met os _)) ?_
  intro W base args ds gs before hval0 hW hcnd _ hL _
  have hval : ∀ (j : Nat) t v, Tryd.f3.params[j]? = some t → args[j]? = some v → Value.okWide Tryd.prog W .any base t v := hval0
  have hW' := hW
  obtain ⟨p, q, hA0, hV, rfl, hfz, hnd⟩ := hW
  have hA : DataW.TrodAll enc Tryd.prog W 0 (fun _ => true) true Tryd.f3.params.toList args.toList ds p := hA0
  rw [Tryd.params3] at hA hval
  obtain ⟨v0, vs0, d0, ds0, p0, q0, hargs, rfl, rfl, h0, r0⟩ := trodAll_cons hA
  obtain ⟨v1, vs1, d1, ds1, p1, q1, rfl, rfl, rfl, h1, r1⟩ := trodAll_cons r0
  obtain ⟨v2, vs2, d2, ds2, p2, q2, rfl, rfl, rfl, h2, r2⟩ := trodAll_cons r1
  obtain ⟨v3, vs3, d3, ds3, p3, q3, rfl, rfl, rfl, h3, r3⟩ := trodAll_cons r2
  obtain ⟨v4, vs4, d4, ds4, p4, q4, rfl, rfl, rfl, h4, r4⟩ := trodAll_cons r3
  obtain ⟨v5, vs5, d5, ds5, p5, q5, rfl, rfl, rfl, h5, r5⟩ := trodAll_cons r4
  obtain ⟨rfl, rfl, rfl⟩ := trodAll_nil r5
  obtain rfl : args = #[v0, v1, v2, v3, v4, v5] := by cases args; simp_all
  obtain ⟨rfl, rfl⟩ := trodVars_none hV
  have k0 := h0
  have lt0 : ∀ x ∈ p0, x.block < W.heap.size := by obtain ⟨m, hm⟩ := k0; exact DataW.trod_lt m _ _ _ hm
  obtain ⟨fu0, hf0⟩ := h0
  obtain ⟨cs0, rfl, hl0, hs0⟩ := open_struct Tryd.underlying24 (hval 0 24 v0 rfl rfl) hf0
  have hl0 := hl0.trans (show _ = 5 by kernel_rfl)
  obtain ⟨c0_0, r0_0, rfl, hl0_0⟩ := cons_of hl0
  obtain ⟨c0_1, r0_1, rfl, hl0_1⟩ := cons_of hl0_0
  obtain ⟨c0_2, r0_2, rfl, hl0_2⟩ := cons_of hl0_1
  obtain ⟨c0_3, r0_3, rfl, hl0_3⟩ := cons_of hl0_2
  obtain ⟨c0_4, r0_4, rfl, hl0_4⟩ := cons_of hl0_3
  obtain rfl := List.length_eq_zero_iff.1 hl0_4
  obtain ⟨z0_0, rfl, w0_0⟩ := field_int hs0 0 rfl Tryd.underlying3 (by kernel_rfl) rfl
  obtain ⟨x0_0, rfl⟩ := exi64 w0_0
  obtain ⟨z0_1, rfl, w0_1⟩ := field_int hs0 1 rfl Tryd.underlying3 (by kernel_rfl) rfl
  obtain ⟨x0_1, rfl⟩ := exi64 w0_1
  obtain ⟨z0_2, rfl, w0_2⟩ := field_int hs0 2 rfl Tryd.underlying3 (by kernel_rfl) rfl
  obtain ⟨x0_2, rfl⟩ := exi64 w0_2
  obtain ⟨z0_3, rfl, w0_3⟩ := field_int hs0 3 rfl Tryd.underlying22 (by kernel_rfl) rfl
  obtain ⟨x0_3, rfl⟩ := ex64 w0_3
  obtain ⟨z0_4, rfl, w0_4⟩ := field_int hs0 4 rfl Tryd.underlying3 (by kernel_rfl) rfl
  obtain ⟨x0_4, rfl⟩ := exi64 w0_4
  clear hs0 hf0
  have k1 := h1
  have lt1 : ∀ x ∈ p1, x.block < W.heap.size := by obtain ⟨m, hm⟩ := k1; exact DataW.trod_lt m _ _ _ hm
  obtain ⟨fu1, hf1⟩ := h1
  obtain ⟨cs1, rfl, hl1, hs1⟩ := open_struct Tryd.underlying24 (hval 1 24 v1 rfl rfl) hf1
  have hl1 := hl1.trans (show _ = 5 by kernel_rfl)
  obtain ⟨c1_0, r1_0, rfl, hl1_0⟩ := cons_of hl1
  obtain ⟨c1_1, r1_1, rfl, hl1_1⟩ := cons_of hl1_0
  obtain ⟨c1_2, r1_2, rfl, hl1_2⟩ := cons_of hl1_1
  obtain ⟨c1_3, r1_3, rfl, hl1_3⟩ := cons_of hl1_2
  obtain ⟨c1_4, r1_4, rfl, hl1_4⟩ := cons_of hl1_3
  obtain rfl := List.length_eq_zero_iff.1 hl1_4
  obtain ⟨z1_0, rfl, w1_0⟩ := field_int hs1 0 rfl Tryd.underlying3 (by kernel_rfl) rfl
  obtain ⟨x1_0, rfl⟩ := exi64 w1_0
  obtain ⟨z1_1, rfl, w1_1⟩ := field_int hs1 1 rfl Tryd.underlying3 (by kernel_rfl) rfl
  obtain ⟨x1_1, rfl⟩ := exi64 w1_1
  obtain ⟨z1_2, rfl, w1_2⟩ := field_int hs1 2 rfl Tryd.underlying3 (by kernel_rfl) rfl
  obtain ⟨x1_2, rfl⟩ := exi64 w1_2
  obtain ⟨z1_3, rfl, w1_3⟩ := field_int hs1 3 rfl Tryd.underlying22 (by kernel_rfl) rfl
  obtain ⟨x1_3, rfl⟩ := ex64 w1_3
  obtain ⟨z1_4, rfl, w1_4⟩ := field_int hs1 4 rfl Tryd.underlying3 (by kernel_rfl) rfl
  obtain ⟨x1_4, rfl⟩ := exi64 w1_4
  clear hs1 hf1
  obtain ⟨a2, rfl, rfl, rfl, w2⟩ := open_int Tryd.underlying22 (hval 2 22 v2 rfl rfl) h2
  obtain ⟨x2, rfl⟩ := ex64 w2
  obtain ⟨a3, rfl, rfl, rfl, w3⟩ := open_int Tryd.underlying22 (hval 3 22 v3 rfl rfl) h3
  obtain ⟨x3, rfl⟩ := ex64 w3
  obtain ⟨a4, rfl, rfl, rfl, w4⟩ := open_int Tryd.underlying3 (hval 4 3 v4 rfl rfl) h4
  obtain ⟨x4, rfl⟩ := exi64 w4
  obtain ⟨a5, rfl, rfl, rfl, w5⟩ := open_int Tryd.underlying3 (hval 5 3 v5 rfl rfl) h5
  obtain ⟨x5, rfl⟩ := exi64 w5
  clear hA0 hval0
  have fin := keysApart_f x0_0 x0_1 x0_2 x0_3 x0_4 x1_0 x1_1 x1_2 x1_3 x1_4 x2 x3 x4 x5 W (hok_nil W) (laid_tab hL)
  refine (law_of_ret fin).mono fun e W' ⟨he, bel⟩ => ?_
  subst he
  exact ⟨_, rfl, _, _, _, [], _, [], hW', trodAll_mk1 (shut_bool Tryd.underlying4 _), (trodAll_cons_mk (Below.trod laidOut (by kernel_rfl) (of_decide_eq_true (by kernel_rfl)) k0 bel lt0) (trodAll_cons_mk (Below.trod laidOut (by kernel_rfl) (of_decide_eq_true (by kernel_rfl)) k1 bel lt1) (trodAll_cons_mk (shut_int Tryd.underlying22 w2) (trodAll_cons_mk (shut_int Tryd.underlying22 w3) (trodAll_cons_mk (shut_int Tryd.underlying3 w4) (trodAll_cons_mk (shut_int Tryd.underlying3 w5) trodAll_mk0)))))), rfl, bel.frame _, fun h => by cases h⟩
theorem over : Rows.keysApartRow.holds Tryd.pinned (OpenSpec.ofChange Rows.keysApartSpec) :=
  OpenClaim.holds_of_wide 3 Tryd.f3 rfl rfl rfl rfl rfl rfl rfl ⟨rfl, rfl, rfl, rfl, rfl⟩ rfl rfl rfl rfl rfl (by kernel_rfl) Tryd.func3 (by kernel_rfl)
    (of_decide_eq_true (by kernel_rfl)) (by unfold Func.isWrapper; first | (rw [if_pos (by decide +kernel)]; kernel_rfl) | (rw [if_neg (by decide +kernel)]; exact ⟨rfl, rfl⟩))
    (fun os started H enc _ => lifted os started H enc)
theorem proved : Rows.KeysApartCardSaid :=
  Claim7.holds_tied_plain_at .later [] [.data, .data, .data] true (true, "745d9957e3eaf97fc0047b5a2a2331510765a18beea88e2b3c98e43898ca1a3b") false
    over (fun _ h => by cases h) (by kernel_rfl) (fun _ h => by cases h) keysApart_row_tie rfl ⟨rfl, rfl⟩ (by kernel_rfl) rfl
    (fun f fn hf hfn => by
      obtain rfl : f = 3 := Option.some.inj ((show Tryd.prog.funcNamed "domino/dominolaw08.KeysApart" = some 3 by kernel_rfl).symm.trans hf) |>.symm
      obtain rfl : fn = Tryd.f3 := (Option.some.inj (Tryd.func3.symm.trans hfn)).symm
      refine ⟨by kernel_rfl, fun j t ht => ?_⟩
      have key : (Tryd.f3.params.toList.all fun t => !Tryd.prog.wantsStandIn t) = true := by kernel_rfl
      have := List.all_eq_true.1 key t (List.mem_of_getElem? (i := j) (by simpa using ht))
      have h9 : Tryd.prog.wantsStandIn t = false := by simpa using this
      exact h9)
    (by kernel_rfl)
#print axioms proved
end Go.Proofs.YtlplpmkdebemnaaDoor.keysApart
