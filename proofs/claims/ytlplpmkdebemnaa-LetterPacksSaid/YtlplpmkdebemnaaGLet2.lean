/- Letters packed and taken, by facts. No conditions but lengths. -/
import Derived.Test.YtlplpmkdebemnaaGLet1
import Derived.Test.YtlplpmkdebemnaaProg
import Derived.Test.YtlplpmkdebemnaaFwU
namespace Go.Proofs.Ytlplpmkdebemnaa
set_option linter.unusedVariables false
set_option linter.unusedSimpArgs false
set_option linter.unnecessarySimpa false
set_option maxRecDepth 100000
open Go.RowKit Bv Fw

/-- The parts of a letter that may not be. -/
def LBad (w : List (BitVec 64)) : Prop := ath w 0 < 1#64 ∨ 5#64 < ath w 0 ∨ 4#64 < ath w 1 ∨ 4#64 < ath w 2 ∨ 4000#64 < ath w 4
instance (w : List (BitVec 64)) : Decidable (LBad w) := by unfold LBad; infer_instance
/-- No letter. -/
def lnil : List Value := [.int .i64 ((0 : Nat) : Int), .int .i64 ((0 : Nat) : Int), .int .i64 ((0 : Nat) : Int), b64 0#64, .int .i64 ((0 : Nat) : Int), b64 0#64, b64 0#64, b64 0#64]
def lof (w : List (BitVec 64)) : List Value := [.int .i64 (((ath w 0).toNat : Nat) : Int), .int .i64 (((ath w 1).toNat : Nat) : Int), .int .i64 (((ath w 2).toNat : Nat) : Int), b64 (ath w 3), .int .i64 (((ath w 4).toNat : Nat) : Int), b64 (ath w 5), b64 (ath w 6), b64 (ath w 7)]
/-- The letter that bytes are, and why they are none. -/
def ltv (b : List (BitVec 8)) : List Value := if b.length = 64 ∧ ¬ LBad (wds b 8) then lof (wds b 8) else lnil
def lte (b : List (BitVec 8)) : Nat := if b.length < 64 then 3 else if 64 < b.length then 4 else if LBad (wds b 8) then 4 else 0
theorem ltv_short {b : List (BitVec 8)} (h : b.length < 64) : ltv b = lnil := by unfold ltv; rw [if_neg (by omega)]
theorem ltv_long {b : List (BitVec 8)} (h : 64 < b.length) : ltv b = lnil := by unfold ltv; rw [if_neg (by omega)]
theorem ltv_bad {b : List (BitVec 8)} (h : LBad (wds b 8)) : ltv b = lnil := by unfold ltv; rw [if_neg (fun q => q.2 h)]
theorem ltv_ok {b : List (BitVec 8)} (h : b.length = 64) (h1 : ¬ ath (wds b 8) 0 < 1#64) (h2 : ¬ 5#64 < ath (wds b 8) 0) (h3 : ¬ 4#64 < ath (wds b 8) 1) (h4 : ¬ 4#64 < ath (wds b 8) 2) (h5 : ¬ 4000#64 < ath (wds b 8) 4) : ltv b = lof (wds b 8) := by
  unfold ltv; rw [if_pos ⟨h, fun q => by rcases q with q | q | q | q | q <;> contradiction⟩]
theorem ltv_len (b : List (BitVec 8)) : (ltv b).length = 8 := by unfold ltv; split <;> rfl
theorem lte_short {b : List (BitVec 8)} (h : b.length < 64) : lte b = 3 := by unfold lte; rw [if_pos h]
theorem lte_long {b : List (BitVec 8)} (h : 64 < b.length) : lte b = 4 := by unfold lte; rw [if_neg (by omega), if_pos h]
theorem lte_bad {b : List (BitVec 8)} (hl : b.length = 64) (h : LBad (wds b 8)) : lte b = 4 := by unfold lte; rw [if_neg (by omega), if_neg (by omega), if_pos h]
theorem lte_ok {b : List (BitVec 8)} (h : b.length = 64) (h1 : ¬ ath (wds b 8) 0 < 1#64) (h2 : ¬ 5#64 < ath (wds b 8) 0) (h3 : ¬ 4#64 < ath (wds b 8) 1) (h4 : ¬ 4#64 < ath (wds b 8) 2) (h5 : ¬ 4000#64 < ath (wds b 8) 4) : lte b = 0 := by
  unfold lte; rw [if_neg (by omega), if_neg (by omega), if_neg (fun q => by rcases q with q | q | q | q | q <;> contradiction)]
theorem lbad1 {w : List (BitVec 64)} (h : ath w 0 < 1#64) : LBad w := .inl h
theorem lbad2 {w : List (BitVec 64)} (h : 5#64 < ath w 0) : LBad w := .inr (.inl h)
theorem lbad3 {w : List (BitVec 64)} (h : 4#64 < ath w 1) : LBad w := .inr (.inr (.inl h))
theorem lbad4 {w : List (BitVec 64)} (h : 4#64 < ath w 2) : LBad w := .inr (.inr (.inr (.inl h)))
theorem lbad5 {w : List (BitVec 64)} (h : 4000#64 < ath w 4) : LBad w := .inr (.inr (.inr (.inr h)))
theorem nle64 {a x : BitVec 64} (h : ¬ a < x) : x.toNat ≤ a.toNat := by rw [BitVec.lt_def] at h; omega
/-- The array of eight numbers, so far. -/
def wpad (b : List (BitVec 8)) (k : Nat) : List (BitVec 64) := wds b k ++ List.replicate (8 - k) 0#64
theorem wpad_len (b : List (BitVec 8)) (k : Nat) (h : k ≤ 8) : (wpad b k).length = 8 := by unfold wpad; rw [List.length_append, wds_len, List.length_replicate]; omega
theorem wpad_set (b : List (BitVec 8)) (k : Nat) (h : k < 8) : (wpad b k).set k (low (List.take 8 (List.drop (8 * k) b)) 8) = wpad b (k + 1) := by
  unfold wpad
  rw [List.set_append_right _ _ (by rw [wds_len]; omega), wds_len, Nat.sub_self, show 8 - k = (8 - (k + 1)) + 1 from by omega, List.replicate_succ, List.set_cons_zero, wds, List.append_assoc]
  rfl
theorem wpad_all (b : List (BitVec 8)) : wpad b 8 = wds b 8 := by unfold wpad; simp

set_option maxHeartbeats 4000000 in
theorem lpack_f (vk : Int) (vf : Int) (vt : Int) (vs : BitVec 64) (vj : Int) (va : BitVec 64) (vr : BitVec 64) (vq : BitVec 64) (w : World) (hO : HOK [] w)  : Calls Try.prog 16 [(.agg [(.int .i64 vk), (.int .i64 vf), (.int .i64 vt), (b64 vs), (.int .i64 vj), (b64 va), (b64 vr), (b64 vq)].toArray)].toArray w (Ret (T := Option Addr × Nat) [] w (fun ⟨B, d⟩ => True) (fun ⟨B, d⟩ => (.slice B 64 d)) (fun ⟨B, d⟩ => [.row (.slice B 64 d) 5 1 64 ((eights [BitVec.ofInt 64 vk, BitVec.ofInt 64 vf, BitVec.ofInt 64 vt, vs, BitVec.ofInt 64 vj, va, vr, vq]).map b8)])) := by
 have hF : Wid Fence.wide := wid_wide
 refine enter (c := _) Try.func16 rfl [] _ [] (by rw [Try.ntmps16]; rfl) (own_rds hO rfl) ?_
 rw [Try.ntmps16]
 refine T_re [(0, (.agg [(.int .i64 vk), (.int .i64 vf), (.int .i64 vt), (b64 vs), (.int .i64 vj), (b64 va), (b64 vr), (b64 vq)].toArray))] (sc rfl sn) ?_
 refine T_he [] [] ⟨by decide, rfl⟩ ?_
 refine Tsr hF rfl ?_
 refine L_op rfl (op_box (zs := [(.int .i64 vk), (.int .i64 vf), (.int .i64 vt), (b64 vs), (.int .i64 vj), (b64 va), (b64 vr), (b64 vq)]) rfl rfl rfl rfl rfl (fun g1 => ?_))
 refine la rfl rfl rfl rfl rfl ?_
 refine L_nil ?_
 refine Tsr hF rfl ?_
 refine lo rfl (pr_fa (m := 0) (m' := 0) (z := 0) (by rfl) Try.underlying33 rfl kr rfl rfl) rfl rfl ?_
 refine lq rfl (ld_blk 0 rfl rfl Try.underlying3 rfl rfl rfl) rfl rfl ?_
 refine lo rfl (pr_cv (zc_u64 vk) Try.underlying3 Try.underlying30 rfl rfl) rfl rfl ?_
 refine lo rfl (pr_fa (m := 0) (m' := 1) (z := 0) (by rfl) Try.underlying33 rfl kr rfl rfl) rfl rfl ?_
 refine lq rfl (ld_blk 0 rfl rfl Try.underlying3 rfl rfl rfl) rfl rfl ?_
 refine lo rfl (pr_cv (zc_u64 vf) Try.underlying3 Try.underlying30 rfl rfl) rfl rfl ?_
 refine lo rfl (pr_fa (m := 0) (m' := 2) (z := 0) (by rfl) Try.underlying33 rfl kr rfl rfl) rfl rfl ?_
 refine lq rfl (ld_blk 0 rfl rfl Try.underlying3 rfl rfl rfl) rfl rfl ?_
 refine lo rfl (pr_cv (zc_u64 vt) Try.underlying3 Try.underlying30 rfl rfl) rfl rfl ?_
 refine lo rfl (pr_fa (m := 0) (m' := 3) (z := 0) (by rfl) Try.underlying33 rfl kr rfl rfl) rfl rfl ?_
 refine lq rfl (ld_blk 0 rfl rfl Try.underlying30 rfl rfl rfl) rfl rfl ?_
 refine lo rfl (pr_fa (m := 0) (m' := 4) (z := 0) (by rfl) Try.underlying33 rfl kr rfl rfl) rfl rfl ?_
 refine lq rfl (ld_blk 0 rfl rfl Try.underlying3 rfl rfl rfl) rfl rfl ?_
 refine lo rfl (pr_cv (zc_u64 vj) Try.underlying3 Try.underlying30 rfl rfl) rfl rfl ?_
 refine lo rfl (pr_fa (m := 0) (m' := 5) (z := 0) (by rfl) Try.underlying33 rfl kr rfl rfl) rfl rfl ?_
 refine lq rfl (ld_blk 0 rfl rfl Try.underlying30 rfl rfl rfl) rfl rfl ?_
 refine lo rfl (pr_fa (m := 0) (m' := 6) (z := 1) (by rfl) Try.underlying33 rfl kr rfl rfl) rfl rfl ?_
 refine lo rfl (pr_ixa (j := 0) (m' := 6) sd (by omega) Try.underlying31 (z := 1) kr rfl rfl rfl) rfl rfl ?_
 refine lq rfl (ld_blk 0 rfl rfl Try.underlying30 rfl rfl rfl) rfl rfl ?_
 refine lo rfl (pr_fa (m := 0) (m' := 6) (z := 1) (by rfl) Try.underlying33 rfl kr rfl rfl) rfl rfl ?_
 refine lo rfl (pr_ixa (j := 1) (m' := 7) sd (by omega) Try.underlying31 (z := 1) kr rfl rfl rfl) rfl rfl ?_
 refine lq rfl (ld_blk 0 rfl rfl Try.underlying30 rfl rfl rfl) rfl rfl ?_
 refine L_op rfl (op_bslice (e := 30) (zs := [(b64 (BitVec.ofInt 64 vk)), (b64 (BitVec.ofInt 64 vf)), (b64 (BitVec.ofInt 64 vt)), (b64 vs), (b64 (BitVec.ofInt 64 vj)), (b64 va), (b64 vr), (b64 vq)]) (qs := [(0, (b64 (BitVec.ofInt 64 vk))), (1, (b64 (BitVec.ofInt 64 vf))), (2, (b64 (BitVec.ofInt 64 vt))), (3, (b64 vs)), (4, (b64 (BitVec.ofInt 64 vj))), (5, (b64 va)), (6, (b64 vr)), (7, (b64 vq))]) (fun _ => by kernel_rfl) rfl rfl rfl rfl (fun g2 => ?_))
 refine L_op rfl (op_cn (fun w hw => lbytes_f [(BitVec.ofInt 64 vk), (BitVec.ofInt 64 vf), (BitVec.ofInt 64 vt), vs, (BitVec.ofInt 64 vj), va, vr, vq] (some ⟨g2, 0, none⟩) 8 8 w (hok_cons ((src_full (z := 1) 0 rfl rfl sd sd) w hw) (hok_nil w)) sd sd) (enters_of Try.func39 kr rfl) rfl rfl rfl rfl rfl (fun t3 q4 => ?_))
 obtain ⟨B5, d6⟩ := t3
 refine la rfl rfl rfl rfl rfl ?_
 refine L_nil ?_
 refine T_ret ?_
 refine T_slot 2 (.slice B5 (8 * 8) d6) (.slice B5 64 d6) rfl (by first | rfl | (simp; done)) ?_
 refine T_as 0 _ (.row (.slice B5 64 d6) 5 1 64 ((eights [BitVec.ofInt 64 vk, BitVec.ofInt 64 vf, BitVec.ofInt 64 vt, vs, BitVec.ofInt 64 vj, va, vr, vq]).map b8)) rfl (by first | rfl | simp | (congr 1; simp)) ?_
 exact T_fin (B5, d6) (by first | trivial | omega | (simp; done)) (res1 rfl rfl) [0] ⟨by decide, rfl⟩ rfl
set_option maxHeartbeats 4000000 in
theorem rlpack_f (vk : Int) (vf : Int) (vt : Int) (vs : BitVec 64) (vj : Int) (va : BitVec 64) (vr : BitVec 64) (vq : BitVec 64) (w : World) (hO : HOK [] w)  : Calls Try.prog 17 [(.agg [(.int .i64 vk), (.int .i64 vf), (.int .i64 vt), (b64 vs), (.int .i64 vj), (b64 va), (b64 vr), (b64 vq)].toArray)].toArray w (Ret (T := Option Addr × Nat) [] w (fun ⟨B, d⟩ => True) (fun ⟨B, d⟩ => (.slice B 64 d)) (fun ⟨B, d⟩ => [.row (.slice B 64 d) 5 1 64 ((eights [BitVec.ofInt 64 vk, BitVec.ofInt 64 vf, BitVec.ofInt 64 vt, vs, BitVec.ofInt 64 vj, va, vr, vq]).map b8)])) := by
 have hF : Wid Fence.wide := wid_wide
 refine enter (c := _) Try.func17 rfl [] _ [] (by rw [Try.ntmps17]; rfl) (own_rds hO rfl) ?_
 rw [Try.ntmps17]
 refine T_re [(0, (.agg [(.int .i64 vk), (.int .i64 vf), (.int .i64 vt), (b64 vs), (.int .i64 vj), (b64 va), (b64 vr), (b64 vq)].toArray))] (sc rfl sn) ?_
 refine T_he [] [] ⟨by decide, rfl⟩ ?_
 refine Tsr hF rfl ?_
 refine L_op rfl (op_box (zs := [(.int .i64 vk), (.int .i64 vf), (.int .i64 vt), (b64 vs), (.int .i64 vj), (b64 va), (b64 vr), (b64 vq)]) rfl rfl rfl rfl rfl (fun g1 => ?_))
 refine la rfl rfl rfl rfl rfl ?_
 refine L_nil ?_
 refine Tsr hF rfl ?_
 refine lo rfl (pr_fa (m := 0) (m' := 0) (z := 0) (by rfl) Try.underlying33 rfl kr rfl rfl) rfl rfl ?_
 refine lq rfl (ld_blk 0 rfl rfl Try.underlying3 rfl rfl rfl) rfl rfl ?_
 refine lo rfl (pr_cv (zc_u64 vk) Try.underlying3 Try.underlying30 rfl rfl) rfl rfl ?_
 refine lo rfl (pr_fa (m := 0) (m' := 1) (z := 0) (by rfl) Try.underlying33 rfl kr rfl rfl) rfl rfl ?_
 refine lq rfl (ld_blk 0 rfl rfl Try.underlying3 rfl rfl rfl) rfl rfl ?_
 refine lo rfl (pr_cv (zc_u64 vf) Try.underlying3 Try.underlying30 rfl rfl) rfl rfl ?_
 refine lo rfl (pr_fa (m := 0) (m' := 2) (z := 0) (by rfl) Try.underlying33 rfl kr rfl rfl) rfl rfl ?_
 refine lq rfl (ld_blk 0 rfl rfl Try.underlying3 rfl rfl rfl) rfl rfl ?_
 refine lo rfl (pr_cv (zc_u64 vt) Try.underlying3 Try.underlying30 rfl rfl) rfl rfl ?_
 refine lo rfl (pr_fa (m := 0) (m' := 3) (z := 0) (by rfl) Try.underlying33 rfl kr rfl rfl) rfl rfl ?_
 refine lq rfl (ld_blk 0 rfl rfl Try.underlying30 rfl rfl rfl) rfl rfl ?_
 refine lo rfl (pr_fa (m := 0) (m' := 4) (z := 0) (by rfl) Try.underlying33 rfl kr rfl rfl) rfl rfl ?_
 refine lq rfl (ld_blk 0 rfl rfl Try.underlying3 rfl rfl rfl) rfl rfl ?_
 refine lo rfl (pr_cv (zc_u64 vj) Try.underlying3 Try.underlying30 rfl rfl) rfl rfl ?_
 refine lo rfl (pr_fa (m := 0) (m' := 5) (z := 0) (by rfl) Try.underlying33 rfl kr rfl rfl) rfl rfl ?_
 refine lq rfl (ld_blk 0 rfl rfl Try.underlying30 rfl rfl rfl) rfl rfl ?_
 refine lo rfl (pr_fa (m := 0) (m' := 6) (z := 1) (by rfl) Try.underlying33 rfl kr rfl rfl) rfl rfl ?_
 refine lo rfl (pr_ixa (j := 0) (m' := 6) sd (by omega) Try.underlying31 (z := 1) kr rfl rfl rfl) rfl rfl ?_
 refine lq rfl (ld_blk 0 rfl rfl Try.underlying30 rfl rfl rfl) rfl rfl ?_
 refine lo rfl (pr_fa (m := 0) (m' := 6) (z := 1) (by rfl) Try.underlying33 rfl kr rfl rfl) rfl rfl ?_
 refine lo rfl (pr_ixa (j := 1) (m' := 7) sd (by omega) Try.underlying31 (z := 1) kr rfl rfl rfl) rfl rfl ?_
 refine lq rfl (ld_blk 0 rfl rfl Try.underlying30 rfl rfl rfl) rfl rfl ?_
 refine L_op rfl (op_bslice (e := 30) (zs := [(b64 (BitVec.ofInt 64 vk)), (b64 (BitVec.ofInt 64 vf)), (b64 (BitVec.ofInt 64 vt)), (b64 vs), (b64 (BitVec.ofInt 64 vj)), (b64 va), (b64 vr), (b64 vq)]) (qs := [(0, (b64 (BitVec.ofInt 64 vk))), (1, (b64 (BitVec.ofInt 64 vf))), (2, (b64 (BitVec.ofInt 64 vt))), (3, (b64 vs)), (4, (b64 (BitVec.ofInt 64 vj))), (5, (b64 va)), (6, (b64 vr)), (7, (b64 vq))]) (fun _ => by kernel_rfl) rfl rfl rfl rfl (fun g2 => ?_))
 refine L_op rfl (op_cn (fun w hw => eights_f [(BitVec.ofInt 64 vk), (BitVec.ofInt 64 vf), (BitVec.ofInt 64 vt), vs, (BitVec.ofInt 64 vj), va, vr, vq] (some ⟨g2, 0, none⟩) 8 8 w (hok_cons ((src_full (z := 1) 0 rfl rfl sd sd) w hw) (hok_nil w)) sd sd) (enters_of Try.func29 kr rfl) rfl rfl rfl rfl rfl (fun t3 q4 => ?_))
 obtain ⟨B5, d6⟩ := t3
 refine la rfl rfl rfl rfl rfl ?_
 refine L_nil ?_
 refine T_ret ?_
 refine T_slot 2 (.slice B5 (8 * 8) d6) (.slice B5 64 d6) rfl (by first | rfl | (simp; done)) ?_
 refine T_as 0 _ (.row (.slice B5 64 d6) 5 1 64 ((eights [BitVec.ofInt 64 vk, BitVec.ofInt 64 vf, BitVec.ofInt 64 vt, vs, BitVec.ofInt 64 vj, va, vr, vq]).map b8)) rfl (by first | rfl | simp | (congr 1; simp)) ?_
 exact T_fin (B5, d6) (by first | trivial | omega | (simp; done)) (res1 rfl rfl) [0] ⟨by decide, rfl⟩ rfl
set_option maxHeartbeats 4000000 in
theorem ltake_f (b : List (BitVec 8)) (A : Option Addr) (n : Nat) (c : Nat) (w : World) (hO : HOK [.rd A 1 n c (b.map b8)] w) (hb : b.length = n) (hn : n ≤ 1000000) : Calls Try.prog 13 [(.slice A n c)].toArray w (Ret (T := Unit) [] w (fun _ => True) (fun _ => (.tuple [(.agg (ltv b).toArray), (.int .i64 (((lte b) : Nat) : Int))].toArray)) (fun _ => [])) := by
 have hwl := wds_len b 8
 have hll := ltv_len b
 have hF : Wid Fence.wide := wid_wide
 refine enter (c := _) Try.func13 rfl [] _ [.rd A 1 n c (b.map b8)] (by rw [Try.ntmps13]; rfl) (own_rds hO rfl) ?_
 rw [Try.ntmps13]
 refine T_re [(0, (.slice A n c))] (sc rfl sn) ?_
 refine T_he [0] [.rd A 1 n c (b.map b8)] ⟨by decide, rfl⟩ ?_
 refine Tsr hF rfl ?_
 refine L_op rfl (op_alloc (z := .agg [(.int .i64 ((0 : Nat) : Int)), (.int .i64 ((0 : Nat) : Int)), (.int .i64 ((0 : Nat) : Int)), (b64 (0#64)), (.int .i64 ((0 : Nat) : Int)), (b64 (0#64)), (b64 (0#64)), (b64 (0#64))].toArray) (zs := [(.int .i64 ((0 : Nat) : Int)), (.int .i64 ((0 : Nat) : Int)), (.int .i64 ((0 : Nat) : Int)), (b64 (0#64)), (.int .i64 ((0 : Nat) : Int)), (b64 (0#64)), (b64 (0#64)), (b64 (0#64))]) kr rfl rfl rfl rfl (fun g1 => ?_))
 refine la rfl rfl rfl rfl rfl ?_
 refine L_nil ?_
 refine T_seq ?_
 refine T_block ?_
 refine Tsr hF rfl ?_
 refine lm rfl rfl rfl rfl rfl ?_
 refine lo rfl (pr_len_sl Try.underlying23 rfl rfl) rfl rfl ?_
 refine lo rfl (pr_cmp (bo := .lss) (nc_lt (a := n) (b := 64)) rfl rfl rfl rfl) rfl rfl ?_
 refine la rfl rfl rfl rfl rfl ?_
 refine L_nil ?_
 refine T_cond (decide (n < 64)) rfl (fun hc_2 => ?_) (fun hc_2 => ?_)
 ·
  have hc_2 := of_decide_eq_true hc_2
  refine Tsr hF rfl ?_
  refine lo rfl (pr_build (qs := []) (v := .agg [(.int .i64 ((0 : Nat) : Int)), (.int .i64 ((0 : Nat) : Int)), (.int .i64 ((0 : Nat) : Int)), (b64 (0#64)), (.int .i64 ((0 : Nat) : Int)), (b64 (0#64)), (b64 (0#64)), (b64 (0#64))].toArray) (fun _ => by kernel_rfl) rfl rfl) rfl rfl ?_
  refine L_op rfl (op_sto (n := 8) (vs := [(.int .i64 ((0 : Nat) : Int)), (.int .i64 ((0 : Nat) : Int)), (.int .i64 ((0 : Nat) : Int)), (b64 (0#64)), (.int .i64 ((0 : Nat) : Int)), (b64 (0#64)), (b64 (0#64)), (b64 (0#64))]) 0 rfl rfl kr (by simp [Value.oneCell']) kr kr rfl rfl rfl rfl ?_)
  refine la rfl rfl rfl rfl rfl ?_
  refine L_nil ?_
  refine T_ret ?_
  refine T_as 0 _ (.blk g1 33 (ltv b)) rfl (by first | rfl | (rw [ltv_short (by omega)]; rfl) | (rw [ltv_long (by omega)]; rfl) | rw [lte_short (by omega)] | rw [lte_long (by omega)] | (rw [ltv_ok (by omega) (by assumption) (by assumption) (by assumption) (by assumption) (by assumption)]; rfl) | rw [lte_ok (by omega) (by assumption) (by assumption) (by assumption) (by assumption) (by assumption)] | (rw [ltv_bad (lbad1 (by assumption))]; rfl) | rw [lte_bad (by omega) (lbad1 (by assumption))] | (rw [ltv_bad (lbad2 (by assumption))]; rfl) | rw [lte_bad (by omega) (lbad2 (by assumption))] | (rw [ltv_bad (lbad3 (by assumption))]; rfl) | rw [lte_bad (by omega) (lbad3 (by assumption))] | (rw [ltv_bad (lbad4 (by assumption))]; rfl) | rw [lte_bad (by omega) (lbad4 (by assumption))] | (rw [ltv_bad (lbad5 (by assumption))]; rfl) | rw [lte_bad (by omega) (lbad5 (by assumption))]) ?_
  refine T_slot 3 (.int .i64 ((3 : Nat) : Int)) (.int .i64 (((lte b) : Nat) : Int)) rfl (by first | rfl | (rw [ltv_short (by omega)]; rfl) | (rw [ltv_long (by omega)]; rfl) | rw [lte_short (by omega)] | rw [lte_long (by omega)] | (rw [ltv_ok (by omega) (by assumption) (by assumption) (by assumption) (by assumption) (by assumption)]; rfl) | rw [lte_ok (by omega) (by assumption) (by assumption) (by assumption) (by assumption) (by assumption)] | (rw [ltv_bad (lbad1 (by assumption))]; rfl) | rw [lte_bad (by omega) (lbad1 (by assumption))] | (rw [ltv_bad (lbad2 (by assumption))]; rfl) | rw [lte_bad (by omega) (lbad2 (by assumption))] | (rw [ltv_bad (lbad3 (by assumption))]; rfl) | rw [lte_bad (by omega) (lbad3 (by assumption))] | (rw [ltv_bad (lbad4 (by assumption))]; rfl) | rw [lte_bad (by omega) (lbad4 (by assumption))] | (rw [ltv_bad (lbad5 (by assumption))]; rfl) | rw [lte_bad (by omega) (lbad5 (by assumption))]) ?_
  exact T_fin () (by first | trivial | omega | (simp; done)) (resct 0 rfl rfl rfl Try.underlying33 rfl (fwz (n := 8) kr sd) rfl) [] ⟨by decide, rfl⟩ rfl
 ·
  have hc_2 := of_decide_eq_false hc_2
  refine Tsr hF rfl ?_
  refine lm rfl rfl rfl rfl rfl ?_
  refine lo rfl (pr_len_sl Try.underlying23 rfl rfl) rfl rfl ?_
  refine lo rfl (pr_cmp (bo := .gtr) (nc_lt (a := 64) (b := n)) rfl rfl rfl rfl) rfl rfl ?_
  refine la rfl rfl rfl rfl rfl ?_
  refine L_nil ?_
  refine T_cond (decide (64 < n)) rfl (fun hc_3 => ?_) (fun hc_3 => ?_)
  ·
   have hc_3 := of_decide_eq_true hc_3
   refine Tsr hF rfl ?_
   refine lo rfl (pr_build (qs := []) (v := .agg [(.int .i64 ((0 : Nat) : Int)), (.int .i64 ((0 : Nat) : Int)), (.int .i64 ((0 : Nat) : Int)), (b64 (0#64)), (.int .i64 ((0 : Nat) : Int)), (b64 (0#64)), (b64 (0#64)), (b64 (0#64))].toArray) (fun _ => by kernel_rfl) rfl rfl) rfl rfl ?_
   refine L_op rfl (op_sto (n := 8) (vs := [(.int .i64 ((0 : Nat) : Int)), (.int .i64 ((0 : Nat) : Int)), (.int .i64 ((0 : Nat) : Int)), (b64 (0#64)), (.int .i64 ((0 : Nat) : Int)), (b64 (0#64)), (b64 (0#64)), (b64 (0#64))]) 0 rfl rfl kr (by simp [Value.oneCell']) kr kr rfl rfl rfl rfl ?_)
   refine la rfl rfl rfl rfl rfl ?_
   refine L_nil ?_
   refine T_ret ?_
   refine T_as 0 _ (.blk g1 33 (ltv b)) rfl (by first | rfl | (rw [ltv_short (by omega)]; rfl) | (rw [ltv_long (by omega)]; rfl) | rw [lte_short (by omega)] | rw [lte_long (by omega)] | (rw [ltv_ok (by omega) (by assumption) (by assumption) (by assumption) (by assumption) (by assumption)]; rfl) | rw [lte_ok (by omega) (by assumption) (by assumption) (by assumption) (by assumption) (by assumption)] | (rw [ltv_bad (lbad1 (by assumption))]; rfl) | rw [lte_bad (by omega) (lbad1 (by assumption))] | (rw [ltv_bad (lbad2 (by assumption))]; rfl) | rw [lte_bad (by omega) (lbad2 (by assumption))] | (rw [ltv_bad (lbad3 (by assumption))]; rfl) | rw [lte_bad (by omega) (lbad3 (by assumption))] | (rw [ltv_bad (lbad4 (by assumption))]; rfl) | rw [lte_bad (by omega) (lbad4 (by assumption))] | (rw [ltv_bad (lbad5 (by assumption))]; rfl) | rw [lte_bad (by omega) (lbad5 (by assumption))]) ?_
   refine T_slot 3 (.int .i64 ((4 : Nat) : Int)) (.int .i64 (((lte b) : Nat) : Int)) rfl (by first | rfl | (rw [ltv_short (by omega)]; rfl) | (rw [ltv_long (by omega)]; rfl) | rw [lte_short (by omega)] | rw [lte_long (by omega)] | (rw [ltv_ok (by omega) (by assumption) (by assumption) (by assumption) (by assumption) (by assumption)]; rfl) | rw [lte_ok (by omega) (by assumption) (by assumption) (by assumption) (by assumption) (by assumption)] | (rw [ltv_bad (lbad1 (by assumption))]; rfl) | rw [lte_bad (by omega) (lbad1 (by assumption))] | (rw [ltv_bad (lbad2 (by assumption))]; rfl) | rw [lte_bad (by omega) (lbad2 (by assumption))] | (rw [ltv_bad (lbad3 (by assumption))]; rfl) | rw [lte_bad (by omega) (lbad3 (by assumption))] | (rw [ltv_bad (lbad4 (by assumption))]; rfl) | rw [lte_bad (by omega) (lbad4 (by assumption))] | (rw [ltv_bad (lbad5 (by assumption))]; rfl) | rw [lte_bad (by omega) (lbad5 (by assumption))]) ?_
   exact T_fin () (by first | trivial | omega | (simp; done)) (resct 0 rfl rfl rfl Try.underlying33 rfl (fwz (n := 8) kr sd) rfl) [] ⟨by decide, rfl⟩ rfl
  ·
   have hc_3 := of_decide_eq_false hc_3
   refine T_skip ?_
   refine Tsr hF rfl ?_
   refine lm rfl rfl rfl rfl rfl ?_
   refine L_op rfl (op_cn (fun w hw => words_f b 8 A n c w (hok_cons ((src_rd 1 rfl) w hw) (hok_nil w)) sd sd sd) (enters_of Try.func37 kr rfl) rfl rfl rfl rfl rfl (fun t4 q5 => ?_))
   obtain ⟨B6, d7⟩ := t4
   refine la rfl rfl rfl rfl rfl ?_
   refine L_nil ?_
   refine T_seq ?_
   refine Tsr hF rfl ?_
   refine lm rfl rfl rfl rfl rfl ?_
   refine lo rfl (pr_ixs1 (j := 0) (src_none (src_row 0 rfl)) sd Try.underlying69 kr rfl rfl rfl) rfl rfl ?_
   refine lq rfl (ld_src (m := 0) (src_row 0 rfl) (get64 sd) Try.underlying30 rfl rfl rfl) rfl rfl ?_
   refine lo rfl (pr_cmp (bo := .lss) (cm_lt64 (ath (wds b 8) 0) (1#64)) rfl rfl rfl rfl) rfl rfl ?_
   refine lm rfl rfl rfl rfl rfl ?_
   rcases Bool.eq_false_or_eq_true (decide ((ath (wds b 8) 0) < 1#64)) with hc_8 | hc_8
   ·
    refine T_slot 21 (.bool (decide ((ath (wds b 8) 0) < 1#64))) (.bool true) rfl (congrArg _ hc_8) ?_
    refine T_slot 20 (.bool (decide ((ath (wds b 8) 0) < 1#64))) (.bool true) rfl (congrArg _ hc_8) ?_
    have hc_8 := of_decide_eq_true hc_8
    refine L_skip rfl rfl rfl ?_
    refine L_skip rfl rfl rfl ?_
    refine L_skip rfl rfl rfl ?_
    refine L_skip rfl rfl rfl ?_
    refine lo rfl (pr_pick_t rfl rfl rfl) rfl rfl ?_
    refine lm rfl rfl rfl rfl rfl ?_
    refine L_skip rfl rfl rfl ?_
    refine L_skip rfl rfl rfl ?_
    refine L_skip rfl rfl rfl ?_
    refine L_skip rfl rfl rfl ?_
    refine lo rfl (pr_pick_t rfl rfl rfl) rfl rfl ?_
    refine lm rfl rfl rfl rfl rfl ?_
    refine L_skip rfl rfl rfl ?_
    refine L_skip rfl rfl rfl ?_
    refine L_skip rfl rfl rfl ?_
    refine L_skip rfl rfl rfl ?_
    refine lo rfl (pr_pick_t rfl rfl rfl) rfl rfl ?_
    refine lm rfl rfl rfl rfl rfl ?_
    refine L_skip rfl rfl rfl ?_
    refine L_skip rfl rfl rfl ?_
    refine L_skip rfl rfl rfl ?_
    refine L_skip rfl rfl rfl ?_
    refine lo rfl (pr_pick_t rfl rfl rfl) rfl rfl ?_
    refine L_nil ?_
    refine T_cond_t rfl ?_
    refine Tsr hF rfl ?_
    refine lo rfl (pr_build (qs := []) (v := .agg [(.int .i64 ((0 : Nat) : Int)), (.int .i64 ((0 : Nat) : Int)), (.int .i64 ((0 : Nat) : Int)), (b64 (0#64)), (.int .i64 ((0 : Nat) : Int)), (b64 (0#64)), (b64 (0#64)), (b64 (0#64))].toArray) (fun _ => by kernel_rfl) rfl rfl) rfl rfl ?_
    refine L_op rfl (op_sto (n := 8) (vs := [(.int .i64 ((0 : Nat) : Int)), (.int .i64 ((0 : Nat) : Int)), (.int .i64 ((0 : Nat) : Int)), (b64 (0#64)), (.int .i64 ((0 : Nat) : Int)), (b64 (0#64)), (b64 (0#64)), (b64 (0#64))]) 1 rfl rfl kr (by simp [Value.oneCell']) kr kr rfl rfl rfl rfl ?_)
    refine la rfl rfl rfl rfl rfl ?_
    refine L_nil ?_
    refine T_ret ?_
    refine T_as 0 _ (.blk g1 33 (ltv b)) rfl (by first | rfl | (rw [ltv_short (by omega)]; rfl) | (rw [ltv_long (by omega)]; rfl) | rw [lte_short (by omega)] | rw [lte_long (by omega)] | (rw [ltv_ok (by omega) (by assumption) (by assumption) (by assumption) (by assumption) (by assumption)]; rfl) | rw [lte_ok (by omega) (by assumption) (by assumption) (by assumption) (by assumption) (by assumption)] | (rw [ltv_bad (lbad1 (by assumption))]; rfl) | rw [lte_bad (by omega) (lbad1 (by assumption))] | (rw [ltv_bad (lbad2 (by assumption))]; rfl) | rw [lte_bad (by omega) (lbad2 (by assumption))] | (rw [ltv_bad (lbad3 (by assumption))]; rfl) | rw [lte_bad (by omega) (lbad3 (by assumption))] | (rw [ltv_bad (lbad4 (by assumption))]; rfl) | rw [lte_bad (by omega) (lbad4 (by assumption))] | (rw [ltv_bad (lbad5 (by assumption))]; rfl) | rw [lte_bad (by omega) (lbad5 (by assumption))]) ?_
    refine T_slot 3 (.int .i64 ((4 : Nat) : Int)) (.int .i64 (((lte b) : Nat) : Int)) rfl (by first | rfl | (rw [ltv_short (by omega)]; rfl) | (rw [ltv_long (by omega)]; rfl) | rw [lte_short (by omega)] | rw [lte_long (by omega)] | (rw [ltv_ok (by omega) (by assumption) (by assumption) (by assumption) (by assumption) (by assumption)]; rfl) | rw [lte_ok (by omega) (by assumption) (by assumption) (by assumption) (by assumption) (by assumption)] | (rw [ltv_bad (lbad1 (by assumption))]; rfl) | rw [lte_bad (by omega) (lbad1 (by assumption))] | (rw [ltv_bad (lbad2 (by assumption))]; rfl) | rw [lte_bad (by omega) (lbad2 (by assumption))] | (rw [ltv_bad (lbad3 (by assumption))]; rfl) | rw [lte_bad (by omega) (lbad3 (by assumption))] | (rw [ltv_bad (lbad4 (by assumption))]; rfl) | rw [lte_bad (by omega) (lbad4 (by assumption))] | (rw [ltv_bad (lbad5 (by assumption))]; rfl) | rw [lte_bad (by omega) (lbad5 (by assumption))]) ?_
    exact T_fin () (by first | trivial | omega | (simp; done)) (resct 0 rfl rfl rfl Try.underlying33 rfl (fwz (n := 8) kr sd) rfl) [] ⟨by decide, rfl⟩ rfl
   ·
    refine T_slot 21 (.bool (decide ((ath (wds b 8) 0) < 1#64))) (.bool false) rfl (congrArg _ hc_8) ?_
    refine T_slot 20 (.bool (decide ((ath (wds b 8) 0) < 1#64))) (.bool false) rfl (congrArg _ hc_8) ?_
    have hc_8 := of_decide_eq_false hc_8
    refine lm rfl rfl rfl rfl rfl ?_
    refine lo rfl (pr_ixs1 (j := 0) (src_none (src_row 0 rfl)) sd Try.underlying69 kr rfl rfl rfl) rfl rfl ?_
    refine lq rfl (ld_src (m := 0) (src_row 0 rfl) (get64 sd) Try.underlying30 rfl rfl rfl) rfl rfl ?_
    refine lo rfl (pr_cmp (bo := .gtr) (cm_lt64 (5#64) (ath (wds b 8) 0)) rfl rfl rfl rfl) rfl rfl ?_
    refine lo rfl (pr_pick_f rfl rfl rfl) rfl rfl ?_
    refine lm rfl rfl rfl rfl rfl ?_
    rcases Bool.eq_false_or_eq_true (decide (5#64 < (ath (wds b 8) 0))) with hc_9 | hc_9
    ·
     refine T_slot 27 (.bool (decide (5#64 < (ath (wds b 8) 0)))) (.bool true) rfl (congrArg _ hc_9) ?_
     refine T_slot 25 (.bool (decide (5#64 < (ath (wds b 8) 0)))) (.bool true) rfl (congrArg _ hc_9) ?_
     refine T_slot 26 (.bool (decide (5#64 < (ath (wds b 8) 0)))) (.bool true) rfl (congrArg _ hc_9) ?_
     have hc_9 := of_decide_eq_true hc_9
     refine L_skip rfl rfl rfl ?_
     refine L_skip rfl rfl rfl ?_
     refine L_skip rfl rfl rfl ?_
     refine L_skip rfl rfl rfl ?_
     refine lo rfl (pr_pick_t rfl rfl rfl) rfl rfl ?_
     refine lm rfl rfl rfl rfl rfl ?_
     refine L_skip rfl rfl rfl ?_
     refine L_skip rfl rfl rfl ?_
     refine L_skip rfl rfl rfl ?_
     refine L_skip rfl rfl rfl ?_
     refine lo rfl (pr_pick_t rfl rfl rfl) rfl rfl ?_
     refine lm rfl rfl rfl rfl rfl ?_
     refine L_skip rfl rfl rfl ?_
     refine L_skip rfl rfl rfl ?_
     refine L_skip rfl rfl rfl ?_
     refine L_skip rfl rfl rfl ?_
     refine lo rfl (pr_pick_t rfl rfl rfl) rfl rfl ?_
     refine L_nil ?_
     refine T_cond_t rfl ?_
     refine Tsr hF rfl ?_
     refine lo rfl (pr_build (qs := []) (v := .agg [(.int .i64 ((0 : Nat) : Int)), (.int .i64 ((0 : Nat) : Int)), (.int .i64 ((0 : Nat) : Int)), (b64 (0#64)), (.int .i64 ((0 : Nat) : Int)), (b64 (0#64)), (b64 (0#64)), (b64 (0#64))].toArray) (fun _ => by kernel_rfl) rfl rfl) rfl rfl ?_
     refine L_op rfl (op_sto (n := 8) (vs := [(.int .i64 ((0 : Nat) : Int)), (.int .i64 ((0 : Nat) : Int)), (.int .i64 ((0 : Nat) : Int)), (b64 (0#64)), (.int .i64 ((0 : Nat) : Int)), (b64 (0#64)), (b64 (0#64)), (b64 (0#64))]) 1 rfl rfl kr (by simp [Value.oneCell']) kr kr rfl rfl rfl rfl ?_)
     refine la rfl rfl rfl rfl rfl ?_
     refine L_nil ?_
     refine T_ret ?_
     refine T_as 0 _ (.blk g1 33 (ltv b)) rfl (by first | rfl | (rw [ltv_short (by omega)]; rfl) | (rw [ltv_long (by omega)]; rfl) | rw [lte_short (by omega)] | rw [lte_long (by omega)] | (rw [ltv_ok (by omega) (by assumption) (by assumption) (by assumption) (by assumption) (by assumption)]; rfl) | rw [lte_ok (by omega) (by assumption) (by assumption) (by assumption) (by assumption) (by assumption)] | (rw [ltv_bad (lbad1 (by assumption))]; rfl) | rw [lte_bad (by omega) (lbad1 (by assumption))] | (rw [ltv_bad (lbad2 (by assumption))]; rfl) | rw [lte_bad (by omega) (lbad2 (by assumption))] | (rw [ltv_bad (lbad3 (by assumption))]; rfl) | rw [lte_bad (by omega) (lbad3 (by assumption))] | (rw [ltv_bad (lbad4 (by assumption))]; rfl) | rw [lte_bad (by omega) (lbad4 (by assumption))] | (rw [ltv_bad (lbad5 (by assumption))]; rfl) | rw [lte_bad (by omega) (lbad5 (by assumption))]) ?_
     refine T_slot 3 (.int .i64 ((4 : Nat) : Int)) (.int .i64 (((lte b) : Nat) : Int)) rfl (by first | rfl | (rw [ltv_short (by omega)]; rfl) | (rw [ltv_long (by omega)]; rfl) | rw [lte_short (by omega)] | rw [lte_long (by omega)] | (rw [ltv_ok (by omega) (by assumption) (by assumption) (by assumption) (by assumption) (by assumption)]; rfl) | rw [lte_ok (by omega) (by assumption) (by assumption) (by assumption) (by assumption) (by assumption)] | (rw [ltv_bad (lbad1 (by assumption))]; rfl) | rw [lte_bad (by omega) (lbad1 (by assumption))] | (rw [ltv_bad (lbad2 (by assumption))]; rfl) | rw [lte_bad (by omega) (lbad2 (by assumption))] | (rw [ltv_bad (lbad3 (by assumption))]; rfl) | rw [lte_bad (by omega) (lbad3 (by assumption))] | (rw [ltv_bad (lbad4 (by assumption))]; rfl) | rw [lte_bad (by omega) (lbad4 (by assumption))] | (rw [ltv_bad (lbad5 (by assumption))]; rfl) | rw [lte_bad (by omega) (lbad5 (by assumption))]) ?_
     exact T_fin () (by first | trivial | omega | (simp; done)) (resct 0 rfl rfl rfl Try.underlying33 rfl (fwz (n := 8) kr sd) rfl) [] ⟨by decide, rfl⟩ rfl
    ·
     refine T_slot 27 (.bool (decide (5#64 < (ath (wds b 8) 0)))) (.bool false) rfl (congrArg _ hc_9) ?_
     refine T_slot 25 (.bool (decide (5#64 < (ath (wds b 8) 0)))) (.bool false) rfl (congrArg _ hc_9) ?_
     refine T_slot 26 (.bool (decide (5#64 < (ath (wds b 8) 0)))) (.bool false) rfl (congrArg _ hc_9) ?_
     have hc_9 := of_decide_eq_false hc_9
     refine lm rfl rfl rfl rfl rfl ?_
     refine lo rfl (pr_ixs1 (j := 1) (src_none (src_row 0 rfl)) sd Try.underlying69 kr rfl rfl rfl) rfl rfl ?_
     refine lq rfl (ld_src (m := 1) (src_row 0 rfl) (get64 sd) Try.underlying30 rfl rfl rfl) rfl rfl ?_
     refine lo rfl (pr_cmp (bo := .gtr) (cm_lt64 (4#64) (ath (wds b 8) 1)) rfl rfl rfl rfl) rfl rfl ?_
     refine lo rfl (pr_pick_f rfl rfl rfl) rfl rfl ?_
     refine lm rfl rfl rfl rfl rfl ?_
     rcases Bool.eq_false_or_eq_true (decide (4#64 < (ath (wds b 8) 1))) with hc_10 | hc_10
     ·
      refine T_slot 33 (.bool (decide (4#64 < (ath (wds b 8) 1)))) (.bool true) rfl (congrArg _ hc_10) ?_
      refine T_slot 31 (.bool (decide (4#64 < (ath (wds b 8) 1)))) (.bool true) rfl (congrArg _ hc_10) ?_
      refine T_slot 32 (.bool (decide (4#64 < (ath (wds b 8) 1)))) (.bool true) rfl (congrArg _ hc_10) ?_
      have hc_10 := of_decide_eq_true hc_10
      refine L_skip rfl rfl rfl ?_
      refine L_skip rfl rfl rfl ?_
      refine L_skip rfl rfl rfl ?_
      refine L_skip rfl rfl rfl ?_
      refine lo rfl (pr_pick_t rfl rfl rfl) rfl rfl ?_
      refine lm rfl rfl rfl rfl rfl ?_
      refine L_skip rfl rfl rfl ?_
      refine L_skip rfl rfl rfl ?_
      refine L_skip rfl rfl rfl ?_
      refine L_skip rfl rfl rfl ?_
      refine lo rfl (pr_pick_t rfl rfl rfl) rfl rfl ?_
      refine L_nil ?_
      refine T_cond_t rfl ?_
      refine Tsr hF rfl ?_
      refine lo rfl (pr_build (qs := []) (v := .agg [(.int .i64 ((0 : Nat) : Int)), (.int .i64 ((0 : Nat) : Int)), (.int .i64 ((0 : Nat) : Int)), (b64 (0#64)), (.int .i64 ((0 : Nat) : Int)), (b64 (0#64)), (b64 (0#64)), (b64 (0#64))].toArray) (fun _ => by kernel_rfl) rfl rfl) rfl rfl ?_
      refine L_op rfl (op_sto (n := 8) (vs := [(.int .i64 ((0 : Nat) : Int)), (.int .i64 ((0 : Nat) : Int)), (.int .i64 ((0 : Nat) : Int)), (b64 (0#64)), (.int .i64 ((0 : Nat) : Int)), (b64 (0#64)), (b64 (0#64)), (b64 (0#64))]) 1 rfl rfl kr (by simp [Value.oneCell']) kr kr rfl rfl rfl rfl ?_)
      refine la rfl rfl rfl rfl rfl ?_
      refine L_nil ?_
      refine T_ret ?_
      refine T_as 0 _ (.blk g1 33 (ltv b)) rfl (by first | rfl | (rw [ltv_short (by omega)]; rfl) | (rw [ltv_long (by omega)]; rfl) | rw [lte_short (by omega)] | rw [lte_long (by omega)] | (rw [ltv_ok (by omega) (by assumption) (by assumption) (by assumption) (by assumption) (by assumption)]; rfl) | rw [lte_ok (by omega) (by assumption) (by assumption) (by assumption) (by assumption) (by assumption)] | (rw [ltv_bad (lbad1 (by assumption))]; rfl) | rw [lte_bad (by omega) (lbad1 (by assumption))] | (rw [ltv_bad (lbad2 (by assumption))]; rfl) | rw [lte_bad (by omega) (lbad2 (by assumption))] | (rw [ltv_bad (lbad3 (by assumption))]; rfl) | rw [lte_bad (by omega) (lbad3 (by assumption))] | (rw [ltv_bad (lbad4 (by assumption))]; rfl) | rw [lte_bad (by omega) (lbad4 (by assumption))] | (rw [ltv_bad (lbad5 (by assumption))]; rfl) | rw [lte_bad (by omega) (lbad5 (by assumption))]) ?_
      refine T_slot 3 (.int .i64 ((4 : Nat) : Int)) (.int .i64 (((lte b) : Nat) : Int)) rfl (by first | rfl | (rw [ltv_short (by omega)]; rfl) | (rw [ltv_long (by omega)]; rfl) | rw [lte_short (by omega)] | rw [lte_long (by omega)] | (rw [ltv_ok (by omega) (by assumption) (by assumption) (by assumption) (by assumption) (by assumption)]; rfl) | rw [lte_ok (by omega) (by assumption) (by assumption) (by assumption) (by assumption) (by assumption)] | (rw [ltv_bad (lbad1 (by assumption))]; rfl) | rw [lte_bad (by omega) (lbad1 (by assumption))] | (rw [ltv_bad (lbad2 (by assumption))]; rfl) | rw [lte_bad (by omega) (lbad2 (by assumption))] | (rw [ltv_bad (lbad3 (by assumption))]; rfl) | rw [lte_bad (by omega) (lbad3 (by assumption))] | (rw [ltv_bad (lbad4 (by assumption))]; rfl) | rw [lte_bad (by omega) (lbad4 (by assumption))] | (rw [ltv_bad (lbad5 (by assumption))]; rfl) | rw [lte_bad (by omega) (lbad5 (by assumption))]) ?_
      exact T_fin () (by first | trivial | omega | (simp; done)) (resct 0 rfl rfl rfl Try.underlying33 rfl (fwz (n := 8) kr sd) rfl) [] ⟨by decide, rfl⟩ rfl
     ·
      refine T_slot 33 (.bool (decide (4#64 < (ath (wds b 8) 1)))) (.bool false) rfl (congrArg _ hc_10) ?_
      refine T_slot 31 (.bool (decide (4#64 < (ath (wds b 8) 1)))) (.bool false) rfl (congrArg _ hc_10) ?_
      refine T_slot 32 (.bool (decide (4#64 < (ath (wds b 8) 1)))) (.bool false) rfl (congrArg _ hc_10) ?_
      have hc_10 := of_decide_eq_false hc_10
      refine lm rfl rfl rfl rfl rfl ?_
      refine lo rfl (pr_ixs1 (j := 2) (src_none (src_row 0 rfl)) sd Try.underlying69 kr rfl rfl rfl) rfl rfl ?_
      refine lq rfl (ld_src (m := 2) (src_row 0 rfl) (get64 sd) Try.underlying30 rfl rfl rfl) rfl rfl ?_
      refine lo rfl (pr_cmp (bo := .gtr) (cm_lt64 (4#64) (ath (wds b 8) 2)) rfl rfl rfl rfl) rfl rfl ?_
      refine lo rfl (pr_pick_f rfl rfl rfl) rfl rfl ?_
      refine lm rfl rfl rfl rfl rfl ?_
      rcases Bool.eq_false_or_eq_true (decide (4#64 < (ath (wds b 8) 2))) with hc_11 | hc_11
      ·
       refine T_slot 39 (.bool (decide (4#64 < (ath (wds b 8) 2)))) (.bool true) rfl (congrArg _ hc_11) ?_
       refine T_slot 37 (.bool (decide (4#64 < (ath (wds b 8) 2)))) (.bool true) rfl (congrArg _ hc_11) ?_
       refine T_slot 38 (.bool (decide (4#64 < (ath (wds b 8) 2)))) (.bool true) rfl (congrArg _ hc_11) ?_
       have hc_11 := of_decide_eq_true hc_11
       refine L_skip rfl rfl rfl ?_
       refine L_skip rfl rfl rfl ?_
       refine L_skip rfl rfl rfl ?_
       refine L_skip rfl rfl rfl ?_
       refine lo rfl (pr_pick_t rfl rfl rfl) rfl rfl ?_
       refine L_nil ?_
       refine T_cond_t rfl ?_
       refine Tsr hF rfl ?_
       refine lo rfl (pr_build (qs := []) (v := .agg [(.int .i64 ((0 : Nat) : Int)), (.int .i64 ((0 : Nat) : Int)), (.int .i64 ((0 : Nat) : Int)), (b64 (0#64)), (.int .i64 ((0 : Nat) : Int)), (b64 (0#64)), (b64 (0#64)), (b64 (0#64))].toArray) (fun _ => by kernel_rfl) rfl rfl) rfl rfl ?_
       refine L_op rfl (op_sto (n := 8) (vs := [(.int .i64 ((0 : Nat) : Int)), (.int .i64 ((0 : Nat) : Int)), (.int .i64 ((0 : Nat) : Int)), (b64 (0#64)), (.int .i64 ((0 : Nat) : Int)), (b64 (0#64)), (b64 (0#64)), (b64 (0#64))]) 1 rfl rfl kr (by simp [Value.oneCell']) kr kr rfl rfl rfl rfl ?_)
       refine la rfl rfl rfl rfl rfl ?_
       refine L_nil ?_
       refine T_ret ?_
       refine T_as 0 _ (.blk g1 33 (ltv b)) rfl (by first | rfl | (rw [ltv_short (by omega)]; rfl) | (rw [ltv_long (by omega)]; rfl) | rw [lte_short (by omega)] | rw [lte_long (by omega)] | (rw [ltv_ok (by omega) (by assumption) (by assumption) (by assumption) (by assumption) (by assumption)]; rfl) | rw [lte_ok (by omega) (by assumption) (by assumption) (by assumption) (by assumption) (by assumption)] | (rw [ltv_bad (lbad1 (by assumption))]; rfl) | rw [lte_bad (by omega) (lbad1 (by assumption))] | (rw [ltv_bad (lbad2 (by assumption))]; rfl) | rw [lte_bad (by omega) (lbad2 (by assumption))] | (rw [ltv_bad (lbad3 (by assumption))]; rfl) | rw [lte_bad (by omega) (lbad3 (by assumption))] | (rw [ltv_bad (lbad4 (by assumption))]; rfl) | rw [lte_bad (by omega) (lbad4 (by assumption))] | (rw [ltv_bad (lbad5 (by assumption))]; rfl) | rw [lte_bad (by omega) (lbad5 (by assumption))]) ?_
       refine T_slot 3 (.int .i64 ((4 : Nat) : Int)) (.int .i64 (((lte b) : Nat) : Int)) rfl (by first | rfl | (rw [ltv_short (by omega)]; rfl) | (rw [ltv_long (by omega)]; rfl) | rw [lte_short (by omega)] | rw [lte_long (by omega)] | (rw [ltv_ok (by omega) (by assumption) (by assumption) (by assumption) (by assumption) (by assumption)]; rfl) | rw [lte_ok (by omega) (by assumption) (by assumption) (by assumption) (by assumption) (by assumption)] | (rw [ltv_bad (lbad1 (by assumption))]; rfl) | rw [lte_bad (by omega) (lbad1 (by assumption))] | (rw [ltv_bad (lbad2 (by assumption))]; rfl) | rw [lte_bad (by omega) (lbad2 (by assumption))] | (rw [ltv_bad (lbad3 (by assumption))]; rfl) | rw [lte_bad (by omega) (lbad3 (by assumption))] | (rw [ltv_bad (lbad4 (by assumption))]; rfl) | rw [lte_bad (by omega) (lbad4 (by assumption))] | (rw [ltv_bad (lbad5 (by assumption))]; rfl) | rw [lte_bad (by omega) (lbad5 (by assumption))]) ?_
       exact T_fin () (by first | trivial | omega | (simp; done)) (resct 0 rfl rfl rfl Try.underlying33 rfl (fwz (n := 8) kr sd) rfl) [] ⟨by decide, rfl⟩ rfl
      ·
       refine T_slot 39 (.bool (decide (4#64 < (ath (wds b 8) 2)))) (.bool false) rfl (congrArg _ hc_11) ?_
       refine T_slot 37 (.bool (decide (4#64 < (ath (wds b 8) 2)))) (.bool false) rfl (congrArg _ hc_11) ?_
       refine T_slot 38 (.bool (decide (4#64 < (ath (wds b 8) 2)))) (.bool false) rfl (congrArg _ hc_11) ?_
       have hc_11 := of_decide_eq_false hc_11
       refine lm rfl rfl rfl rfl rfl ?_
       refine lo rfl (pr_ixs1 (j := 4) (src_none (src_row 0 rfl)) sd Try.underlying69 kr rfl rfl rfl) rfl rfl ?_
       refine lq rfl (ld_src (m := 4) (src_row 0 rfl) (get64 sd) Try.underlying30 rfl rfl rfl) rfl rfl ?_
       refine lo rfl (pr_cmp (bo := .gtr) (cm_lt64 (4000#64) (ath (wds b 8) 4)) rfl rfl rfl rfl) rfl rfl ?_
       refine lo rfl (pr_pick_f rfl rfl rfl) rfl rfl ?_
       refine L_nil ?_
       refine T_cond (decide (4000#64 < (ath (wds b 8) 4))) rfl (fun hc_12 => ?_) (fun hc_12 => ?_)
       ·
        have hc_12 := of_decide_eq_true hc_12
        refine Tsr hF rfl ?_
        refine lo rfl (pr_build (qs := []) (v := .agg [(.int .i64 ((0 : Nat) : Int)), (.int .i64 ((0 : Nat) : Int)), (.int .i64 ((0 : Nat) : Int)), (b64 (0#64)), (.int .i64 ((0 : Nat) : Int)), (b64 (0#64)), (b64 (0#64)), (b64 (0#64))].toArray) (fun _ => by kernel_rfl) rfl rfl) rfl rfl ?_
        refine L_op rfl (op_sto (n := 8) (vs := [(.int .i64 ((0 : Nat) : Int)), (.int .i64 ((0 : Nat) : Int)), (.int .i64 ((0 : Nat) : Int)), (b64 (0#64)), (.int .i64 ((0 : Nat) : Int)), (b64 (0#64)), (b64 (0#64)), (b64 (0#64))]) 1 rfl rfl kr (by simp [Value.oneCell']) kr kr rfl rfl rfl rfl ?_)
        refine la rfl rfl rfl rfl rfl ?_
        refine L_nil ?_
        refine T_ret ?_
        refine T_as 0 _ (.blk g1 33 (ltv b)) rfl (by first | rfl | (rw [ltv_short (by omega)]; rfl) | (rw [ltv_long (by omega)]; rfl) | rw [lte_short (by omega)] | rw [lte_long (by omega)] | (rw [ltv_ok (by omega) (by assumption) (by assumption) (by assumption) (by assumption) (by assumption)]; rfl) | rw [lte_ok (by omega) (by assumption) (by assumption) (by assumption) (by assumption) (by assumption)] | (rw [ltv_bad (lbad1 (by assumption))]; rfl) | rw [lte_bad (by omega) (lbad1 (by assumption))] | (rw [ltv_bad (lbad2 (by assumption))]; rfl) | rw [lte_bad (by omega) (lbad2 (by assumption))] | (rw [ltv_bad (lbad3 (by assumption))]; rfl) | rw [lte_bad (by omega) (lbad3 (by assumption))] | (rw [ltv_bad (lbad4 (by assumption))]; rfl) | rw [lte_bad (by omega) (lbad4 (by assumption))] | (rw [ltv_bad (lbad5 (by assumption))]; rfl) | rw [lte_bad (by omega) (lbad5 (by assumption))]) ?_
        refine T_slot 3 (.int .i64 ((4 : Nat) : Int)) (.int .i64 (((lte b) : Nat) : Int)) rfl (by first | rfl | (rw [ltv_short (by omega)]; rfl) | (rw [ltv_long (by omega)]; rfl) | rw [lte_short (by omega)] | rw [lte_long (by omega)] | (rw [ltv_ok (by omega) (by assumption) (by assumption) (by assumption) (by assumption) (by assumption)]; rfl) | rw [lte_ok (by omega) (by assumption) (by assumption) (by assumption) (by assumption) (by assumption)] | (rw [ltv_bad (lbad1 (by assumption))]; rfl) | rw [lte_bad (by omega) (lbad1 (by assumption))] | (rw [ltv_bad (lbad2 (by assumption))]; rfl) | rw [lte_bad (by omega) (lbad2 (by assumption))] | (rw [ltv_bad (lbad3 (by assumption))]; rfl) | rw [lte_bad (by omega) (lbad3 (by assumption))] | (rw [ltv_bad (lbad4 (by assumption))]; rfl) | rw [lte_bad (by omega) (lbad4 (by assumption))] | (rw [ltv_bad (lbad5 (by assumption))]; rfl) | rw [lte_bad (by omega) (lbad5 (by assumption))]) ?_
        exact T_fin () (by first | trivial | omega | (simp; done)) (resct 0 rfl rfl rfl Try.underlying33 rfl (fwz (n := 8) kr sd) rfl) [] ⟨by decide, rfl⟩ rfl
       ·
        have hc_12 := of_decide_eq_false hc_12
        refine T_skip ?_
        refine T_seq ?_
        refine T_regD [.row (.slice B6 8 d7) 30 1 8 ((wds b 8).map b64), .blk g1 33 [(.int .i64 ((0 : Nat) : Int)), (.int .i64 ((0 : Nat) : Int)), (.int .i64 ((0 : Nat) : Int)), (b64 (0#64)), (.int .i64 ((0 : Nat) : Int)), (b64 (0#64)), (b64 (0#64)), (b64 (0#64))], .rd A 1 n c (b.map b8)] 30 32 #[false, false, false, false, false, false, false, false, false, false, false, false, false, false, false, false, false, false, false, false, false, false, false, false, false, false, false, false, false, false, false, false] hF kr kr ?_
        refine D_pure (i := 0) [0, 1, 2] rfl kr rfl (pr_move rfl rfl) (.inr rfl) rfl rfl ?_
        have hb0 : (ath (wds b 8) 0).toNat ≤ 5 := nle64 (show ¬ 5#64 < ath (wds b 8) 0 by assumption)
        have hb1 : (ath (wds b 8) 1).toNat ≤ 4 := nle64 (show ¬ 4#64 < ath (wds b 8) 1 by assumption)
        have hb2 : (ath (wds b 8) 2).toNat ≤ 4 := nle64 (show ¬ 4#64 < ath (wds b 8) 2 by assumption)
        have hb3 : (ath (wds b 8) 4).toNat ≤ 4000 := nle64 (show ¬ 4000#64 < ath (wds b 8) 4 by assumption)
        refine D_pure (i := 1) [0, 1, 2] rfl kr rfl (pr_ixs1 (j := 0) (src_none (src_row 0 rfl)) sd Try.underlying69 kr rfl rfl rfl) (.inr rfl) rfl rfl ?_
        refine D_pure (i := 4) [0, 1, 2] rfl kr rfl (pr_move rfl rfl) (.inr rfl) rfl rfl ?_
        refine D_pure (i := 5) [0, 1, 2] rfl kr rfl (pr_ixs1 (j := 1) (src_none (src_row 0 rfl)) sd Try.underlying69 kr rfl rfl rfl) (.inr rfl) rfl rfl ?_
        refine D_pure (i := 8) [0, 1, 2] rfl kr rfl (pr_move rfl rfl) (.inr rfl) rfl rfl ?_
        refine D_pure (i := 9) [0, 1, 2] rfl kr rfl (pr_ixs1 (j := 2) (src_none (src_row 0 rfl)) sd Try.underlying69 kr rfl rfl rfl) (.inr rfl) rfl rfl ?_
        refine D_pure (i := 12) [0, 1, 2] rfl kr rfl (pr_move rfl rfl) (.inr rfl) rfl rfl ?_
        refine D_pure (i := 13) [0, 1, 2] rfl kr rfl (pr_ixs1 (j := 3) (src_none (src_row 0 rfl)) sd Try.underlying69 kr rfl rfl rfl) (.inr rfl) rfl rfl ?_
        refine D_pure (i := 15) [0, 1, 2] rfl kr rfl (pr_move rfl rfl) (.inr rfl) rfl rfl ?_
        refine D_pure (i := 16) [0, 1, 2] rfl kr rfl (pr_ixs1 (j := 4) (src_none (src_row 0 rfl)) sd Try.underlying69 kr rfl rfl rfl) (.inr rfl) rfl rfl ?_
        refine D_pure (i := 19) [0, 1, 2] rfl kr rfl (pr_move rfl rfl) (.inr rfl) rfl rfl ?_
        refine D_pure (i := 20) [0, 1, 2] rfl kr rfl (pr_ixs1 (j := 5) (src_none (src_row 0 rfl)) sd Try.underlying69 kr rfl rfl rfl) (.inr rfl) rfl rfl ?_
        refine D_pure (i := 22) [0, 1, 2] rfl kr rfl (pr_move rfl rfl) (.inr rfl) rfl rfl ?_
        refine D_pure (i := 23) [0, 1, 2] rfl kr rfl (pr_ixs1 (j := 6) (src_none (src_row 0 rfl)) sd Try.underlying69 kr rfl rfl rfl) (.inr rfl) rfl rfl ?_
        refine D_pure (i := 25) [0, 1, 2] rfl kr rfl (pr_move rfl rfl) (.inr rfl) rfl rfl ?_
        refine D_pure (i := 26) [0, 1, 2] rfl kr rfl (pr_ixs1 (j := 7) (src_none (src_row 0 rfl)) sd Try.underlying69 kr rfl rfl rfl) (.inr rfl) rfl rfl ?_
        refine D_take (i := 2) [0, 1, 2] rfl kr rfl (ld_src (m := 0) (src_row 0 rfl) (get64 sd) Try.underlying30 rfl rfl rfl) rfl rfl rfl ?_
        refine D_pure (i := 3) [0, 1, 2] rfl kr rfl (pr_cv (n64i sd) Try.underlying30 Try.underlying3 rfl rfl) (.inr rfl) rfl rfl ?_
        refine D_take (i := 6) [0, 1, 2] rfl kr rfl (ld_src (m := 1) (src_row 0 rfl) (get64 sd) Try.underlying30 rfl rfl rfl) rfl rfl rfl ?_
        refine D_pure (i := 7) [0, 1, 2] rfl kr rfl (pr_cv (n64i sd) Try.underlying30 Try.underlying3 rfl rfl) (.inr rfl) rfl rfl ?_
        refine D_take (i := 10) [0, 1, 2] rfl kr rfl (ld_src (m := 2) (src_row 0 rfl) (get64 sd) Try.underlying30 rfl rfl rfl) rfl rfl rfl ?_
        refine D_pure (i := 11) [0, 1, 2] rfl kr rfl (pr_cv (n64i sd) Try.underlying30 Try.underlying3 rfl rfl) (.inr rfl) rfl rfl ?_
        refine D_take (i := 14) [0, 1, 2] rfl kr rfl (ld_src (m := 3) (src_row 0 rfl) (get64 sd) Try.underlying30 rfl rfl rfl) rfl rfl rfl ?_
        refine D_take (i := 17) [0, 1, 2] rfl kr rfl (ld_src (m := 4) (src_row 0 rfl) (get64 sd) Try.underlying30 rfl rfl rfl) rfl rfl rfl ?_
        refine D_pure (i := 18) [0, 1, 2] rfl kr rfl (pr_cv (n64i sd) Try.underlying30 Try.underlying3 rfl rfl) (.inr rfl) rfl rfl ?_
        refine D_take (i := 21) [0, 1, 2] rfl kr rfl (ld_src (m := 5) (src_row 0 rfl) (get64 sd) Try.underlying30 rfl rfl rfl) rfl rfl rfl ?_
        refine D_take (i := 24) [0, 1, 2] rfl kr rfl (ld_src (m := 6) (src_row 0 rfl) (get64 sd) Try.underlying30 rfl rfl rfl) rfl rfl rfl ?_
        refine D_take (i := 27) [0, 1, 2] rfl kr rfl (ld_src (m := 7) (src_row 0 rfl) (get64 sd) Try.underlying30 rfl rfl rfl) rfl rfl rfl ?_
        refine D_pure (i := 28) [0, 1, 2] rfl kr rfl (pr_build (qs := [(0, (b64 (ath (wds b 8) 6))), (1, (b64 (ath (wds b 8) 7)))]) (v := .agg [(b64 (ath (wds b 8) 6)), (b64 (ath (wds b 8) 7))].toArray) (fun _ => by kernel_rfl) rfl rfl) (.inr rfl) rfl rfl ?_
        refine D_pure (i := 29) [0, 1, 2] rfl kr rfl (pr_build (qs := [(0, (.int .i64 (((ath (wds b 8) 0).toNat : Nat) : Int))), (1, (.int .i64 (((ath (wds b 8) 1).toNat : Nat) : Int))), (2, (.int .i64 (((ath (wds b 8) 2).toNat : Nat) : Int))), (3, (b64 (ath (wds b 8) 3))), (4, (.int .i64 (((ath (wds b 8) 4).toNat : Nat) : Int))), (5, (b64 (ath (wds b 8) 5))), (6, (.agg [(b64 (ath (wds b 8) 6)), (b64 (ath (wds b 8) 7))].toArray))]) (v := .agg [(.int .i64 (((ath (wds b 8) 0).toNat : Nat) : Int)), (.int .i64 (((ath (wds b 8) 1).toNat : Nat) : Int)), (.int .i64 (((ath (wds b 8) 2).toNat : Nat) : Int)), (b64 (ath (wds b 8) 3)), (.int .i64 (((ath (wds b 8) 4).toNat : Nat) : Int)), (b64 (ath (wds b 8) 5)), (b64 (ath (wds b 8) 6)), (b64 (ath (wds b 8) 7))].toArray) (fun _ => by kernel_rfl) rfl rfl) (.inr rfl) rfl rfl ?_
        refine D_one 30 _ rfl kr rfl (op_sto (n := 8) (vs := [(.int .i64 (((ath (wds b 8) 0).toNat : Nat) : Int)), (.int .i64 (((ath (wds b 8) 1).toNat : Nat) : Int)), (.int .i64 (((ath (wds b 8) 2).toNat : Nat) : Int)), (b64 (ath (wds b 8) 3)), (.int .i64 (((ath (wds b 8) 4).toNat : Nat) : Int)), (b64 (ath (wds b 8) 5)), (b64 (ath (wds b 8) 6)), (b64 (ath (wds b 8) 7))]) 1 rfl rfl kr (by simp [Value.oneCell']) kr kr rfl rfl rfl rfl ?_)
        refine D_past kr ?_
        refine D_pure (i := 31) [] rfl kr rfl (pr_assign rfl rfl) (.inl kr) rfl rfl ?_
        refine D_done kr ?_
        refine T_ret ?_
        refine T_as 0 _ (.blk g1 33 (ltv b)) rfl (by first | rfl | (rw [ltv_short (by omega)]; rfl) | (rw [ltv_long (by omega)]; rfl) | rw [lte_short (by omega)] | rw [lte_long (by omega)] | (rw [ltv_ok (by omega) (by assumption) (by assumption) (by assumption) (by assumption) (by assumption)]; rfl) | rw [lte_ok (by omega) (by assumption) (by assumption) (by assumption) (by assumption) (by assumption)] | (rw [ltv_bad (lbad1 (by assumption))]; rfl) | rw [lte_bad (by omega) (lbad1 (by assumption))] | (rw [ltv_bad (lbad2 (by assumption))]; rfl) | rw [lte_bad (by omega) (lbad2 (by assumption))] | (rw [ltv_bad (lbad3 (by assumption))]; rfl) | rw [lte_bad (by omega) (lbad3 (by assumption))] | (rw [ltv_bad (lbad4 (by assumption))]; rfl) | rw [lte_bad (by omega) (lbad4 (by assumption))] | (rw [ltv_bad (lbad5 (by assumption))]; rfl) | rw [lte_bad (by omega) (lbad5 (by assumption))]) ?_
        refine T_slot 3 (.int .i64 ((0 : Nat) : Int)) (.int .i64 (((lte b) : Nat) : Int)) rfl (by first | rfl | (rw [ltv_short (by omega)]; rfl) | (rw [ltv_long (by omega)]; rfl) | rw [lte_short (by omega)] | rw [lte_long (by omega)] | (rw [ltv_ok (by omega) (by assumption) (by assumption) (by assumption) (by assumption) (by assumption)]; rfl) | rw [lte_ok (by omega) (by assumption) (by assumption) (by assumption) (by assumption) (by assumption)] | (rw [ltv_bad (lbad1 (by assumption))]; rfl) | rw [lte_bad (by omega) (lbad1 (by assumption))] | (rw [ltv_bad (lbad2 (by assumption))]; rfl) | rw [lte_bad (by omega) (lbad2 (by assumption))] | (rw [ltv_bad (lbad3 (by assumption))]; rfl) | rw [lte_bad (by omega) (lbad3 (by assumption))] | (rw [ltv_bad (lbad4 (by assumption))]; rfl) | rw [lte_bad (by omega) (lbad4 (by assumption))] | (rw [ltv_bad (lbad5 (by assumption))]; rfl) | rw [lte_bad (by omega) (lbad5 (by assumption))]) ?_
        exact T_fin () (by first | trivial | omega | (simp; done)) (resct 0 rfl rfl rfl Try.underlying33 rfl (fwz (n := 8) kr sd) rfl) [] ⟨by decide, rfl⟩ rfl
set_option maxHeartbeats 4000000 in
theorem rltake_f (b : List (BitVec 8)) (A : Option Addr) (n : Nat) (c : Nat) (w : World) (hO : HOK [.rd A 1 n c (b.map b8)] w) (hb : b.length = n) (hn : n ≤ 1000000) : Calls Try.prog 14 [(.slice A n c)].toArray w (Ret (T := Unit) [] w (fun _ => True) (fun _ => (.tuple [(.agg (ltv b).toArray), (.int .i64 (((lte b) : Nat) : Int))].toArray)) (fun _ => [])) := by
 have hwl := wds_len b 8
 have hll := ltv_len b
 have hF : Wid Fence.wide := wid_wide
 refine enter (c := _) Try.func14 rfl [] _ [.rd A 1 n c (b.map b8)] (by rw [Try.ntmps14]; rfl) (own_rds hO rfl) ?_
 rw [Try.ntmps14]
 refine T_re [(0, (.slice A n c))] (sc rfl sn) ?_
 refine T_he [0] [.rd A 1 n c (b.map b8)] ⟨by decide, rfl⟩ ?_
 refine Tsr hF rfl ?_
 refine L_op rfl (op_alloc (z := .agg [(.int .i64 ((0 : Nat) : Int)), (.int .i64 ((0 : Nat) : Int)), (.int .i64 ((0 : Nat) : Int)), (b64 (0#64)), (.int .i64 ((0 : Nat) : Int)), (b64 (0#64)), (b64 (0#64)), (b64 (0#64))].toArray) (zs := [(.int .i64 ((0 : Nat) : Int)), (.int .i64 ((0 : Nat) : Int)), (.int .i64 ((0 : Nat) : Int)), (b64 (0#64)), (.int .i64 ((0 : Nat) : Int)), (b64 (0#64)), (b64 (0#64)), (b64 (0#64))]) kr rfl rfl rfl rfl (fun g1 => ?_))
 refine la rfl rfl rfl rfl rfl ?_
 refine L_nil ?_
 refine T_seq ?_
 refine Tsr hF rfl ?_
 refine lm rfl rfl rfl rfl rfl ?_
 refine lo rfl (pr_len_sl Try.underlying23 rfl rfl) rfl rfl ?_
 refine lo rfl (pr_cmp (bo := .lss) (nc_lt (a := n) (b := 64)) rfl rfl rfl rfl) rfl rfl ?_
 refine L_nil ?_
 refine T_cond (decide (n < 64)) rfl (fun hc_2 => ?_) (fun hc_2 => ?_)
 ·
  have hc_2 := of_decide_eq_true hc_2
  refine Tsr hF rfl ?_
  refine lo rfl (pr_build (qs := []) (v := .agg [(.int .i64 ((0 : Nat) : Int)), (.int .i64 ((0 : Nat) : Int)), (.int .i64 ((0 : Nat) : Int)), (b64 (0#64)), (.int .i64 ((0 : Nat) : Int)), (b64 (0#64)), (b64 (0#64)), (b64 (0#64))].toArray) (fun _ => by kernel_rfl) rfl rfl) rfl rfl ?_
  refine L_op rfl (op_sto (n := 8) (vs := [(.int .i64 ((0 : Nat) : Int)), (.int .i64 ((0 : Nat) : Int)), (.int .i64 ((0 : Nat) : Int)), (b64 (0#64)), (.int .i64 ((0 : Nat) : Int)), (b64 (0#64)), (b64 (0#64)), (b64 (0#64))]) 0 rfl rfl kr (by simp [Value.oneCell']) kr kr rfl rfl rfl rfl ?_)
  refine la rfl rfl rfl rfl rfl ?_
  refine L_nil ?_
  refine T_ret ?_
  refine T_as 0 _ (.blk g1 33 (ltv b)) rfl (by first | rfl | (rw [ltv_short (by omega)]; rfl) | (rw [ltv_long (by omega)]; rfl) | rw [lte_short (by omega)] | rw [lte_long (by omega)] | (rw [ltv_ok (by omega) (by assumption) (by assumption) (by assumption) (by assumption) (by assumption)]; rfl) | rw [lte_ok (by omega) (by assumption) (by assumption) (by assumption) (by assumption) (by assumption)] | (rw [ltv_bad (lbad1 (by assumption))]; rfl) | rw [lte_bad (by omega) (lbad1 (by assumption))] | (rw [ltv_bad (lbad2 (by assumption))]; rfl) | rw [lte_bad (by omega) (lbad2 (by assumption))] | (rw [ltv_bad (lbad3 (by assumption))]; rfl) | rw [lte_bad (by omega) (lbad3 (by assumption))] | (rw [ltv_bad (lbad4 (by assumption))]; rfl) | rw [lte_bad (by omega) (lbad4 (by assumption))] | (rw [ltv_bad (lbad5 (by assumption))]; rfl) | rw [lte_bad (by omega) (lbad5 (by assumption))]) ?_
  refine T_slot 3 (.int .i64 ((3 : Nat) : Int)) (.int .i64 (((lte b) : Nat) : Int)) rfl (by first | rfl | (rw [ltv_short (by omega)]; rfl) | (rw [ltv_long (by omega)]; rfl) | rw [lte_short (by omega)] | rw [lte_long (by omega)] | (rw [ltv_ok (by omega) (by assumption) (by assumption) (by assumption) (by assumption) (by assumption)]; rfl) | rw [lte_ok (by omega) (by assumption) (by assumption) (by assumption) (by assumption) (by assumption)] | (rw [ltv_bad (lbad1 (by assumption))]; rfl) | rw [lte_bad (by omega) (lbad1 (by assumption))] | (rw [ltv_bad (lbad2 (by assumption))]; rfl) | rw [lte_bad (by omega) (lbad2 (by assumption))] | (rw [ltv_bad (lbad3 (by assumption))]; rfl) | rw [lte_bad (by omega) (lbad3 (by assumption))] | (rw [ltv_bad (lbad4 (by assumption))]; rfl) | rw [lte_bad (by omega) (lbad4 (by assumption))] | (rw [ltv_bad (lbad5 (by assumption))]; rfl) | rw [lte_bad (by omega) (lbad5 (by assumption))]) ?_
  exact T_fin () (by first | trivial | omega | (simp; done)) (resct 0 rfl rfl rfl Try.underlying33 rfl (fwz (n := 8) kr sd) rfl) [] ⟨by decide, rfl⟩ rfl
 ·
  have hc_2 := of_decide_eq_false hc_2
  refine T_skip ?_
  refine T_seq ?_
  refine Tsr hF rfl ?_
  refine lm rfl rfl rfl rfl rfl ?_
  refine lo rfl (pr_len_sl Try.underlying23 rfl rfl) rfl rfl ?_
  refine lo rfl (pr_cmp (bo := .gtr) (nc_lt (a := 64) (b := n)) rfl rfl rfl rfl) rfl rfl ?_
  refine L_nil ?_
  refine T_cond (decide (64 < n)) rfl (fun hc_3 => ?_) (fun hc_3 => ?_)
  ·
   have hc_3 := of_decide_eq_true hc_3
   refine Tsr hF rfl ?_
   refine lo rfl (pr_build (qs := []) (v := .agg [(.int .i64 ((0 : Nat) : Int)), (.int .i64 ((0 : Nat) : Int)), (.int .i64 ((0 : Nat) : Int)), (b64 (0#64)), (.int .i64 ((0 : Nat) : Int)), (b64 (0#64)), (b64 (0#64)), (b64 (0#64))].toArray) (fun _ => by kernel_rfl) rfl rfl) rfl rfl ?_
   refine L_op rfl (op_sto (n := 8) (vs := [(.int .i64 ((0 : Nat) : Int)), (.int .i64 ((0 : Nat) : Int)), (.int .i64 ((0 : Nat) : Int)), (b64 (0#64)), (.int .i64 ((0 : Nat) : Int)), (b64 (0#64)), (b64 (0#64)), (b64 (0#64))]) 0 rfl rfl kr (by simp [Value.oneCell']) kr kr rfl rfl rfl rfl ?_)
   refine la rfl rfl rfl rfl rfl ?_
   refine L_nil ?_
   refine T_ret ?_
   refine T_as 0 _ (.blk g1 33 (ltv b)) rfl (by first | rfl | (rw [ltv_short (by omega)]; rfl) | (rw [ltv_long (by omega)]; rfl) | rw [lte_short (by omega)] | rw [lte_long (by omega)] | (rw [ltv_ok (by omega) (by assumption) (by assumption) (by assumption) (by assumption) (by assumption)]; rfl) | rw [lte_ok (by omega) (by assumption) (by assumption) (by assumption) (by assumption) (by assumption)] | (rw [ltv_bad (lbad1 (by assumption))]; rfl) | rw [lte_bad (by omega) (lbad1 (by assumption))] | (rw [ltv_bad (lbad2 (by assumption))]; rfl) | rw [lte_bad (by omega) (lbad2 (by assumption))] | (rw [ltv_bad (lbad3 (by assumption))]; rfl) | rw [lte_bad (by omega) (lbad3 (by assumption))] | (rw [ltv_bad (lbad4 (by assumption))]; rfl) | rw [lte_bad (by omega) (lbad4 (by assumption))] | (rw [ltv_bad (lbad5 (by assumption))]; rfl) | rw [lte_bad (by omega) (lbad5 (by assumption))]) ?_
   refine T_slot 3 (.int .i64 ((4 : Nat) : Int)) (.int .i64 (((lte b) : Nat) : Int)) rfl (by first | rfl | (rw [ltv_short (by omega)]; rfl) | (rw [ltv_long (by omega)]; rfl) | rw [lte_short (by omega)] | rw [lte_long (by omega)] | (rw [ltv_ok (by omega) (by assumption) (by assumption) (by assumption) (by assumption) (by assumption)]; rfl) | rw [lte_ok (by omega) (by assumption) (by assumption) (by assumption) (by assumption) (by assumption)] | (rw [ltv_bad (lbad1 (by assumption))]; rfl) | rw [lte_bad (by omega) (lbad1 (by assumption))] | (rw [ltv_bad (lbad2 (by assumption))]; rfl) | rw [lte_bad (by omega) (lbad2 (by assumption))] | (rw [ltv_bad (lbad3 (by assumption))]; rfl) | rw [lte_bad (by omega) (lbad3 (by assumption))] | (rw [ltv_bad (lbad4 (by assumption))]; rfl) | rw [lte_bad (by omega) (lbad4 (by assumption))] | (rw [ltv_bad (lbad5 (by assumption))]; rfl) | rw [lte_bad (by omega) (lbad5 (by assumption))]) ?_
   exact T_fin () (by first | trivial | omega | (simp; done)) (resct 0 rfl rfl rfl Try.underlying33 rfl (fwz (n := 8) kr sd) rfl) [] ⟨by decide, rfl⟩ rfl
  ·
   have hc_3 := of_decide_eq_false hc_3
   refine T_skip ?_
   refine Tsr hF rfl ?_
   refine L_op rfl (op_alloc (z := .agg [(b64 (0#64)), (b64 (0#64)), (b64 (0#64)), (b64 (0#64)), (b64 (0#64)), (b64 (0#64)), (b64 (0#64)), (b64 (0#64))].toArray) (zs := [(b64 (0#64)), (b64 (0#64)), (b64 (0#64)), (b64 (0#64)), (b64 (0#64)), (b64 (0#64)), (b64 (0#64)), (b64 (0#64))]) kr rfl rfl rfl rfl (fun g4 => ?_))
   refine L_nil ?_
   refine T_seq ?_
   refine Tsr hF rfl ?_
   refine la rfl rfl rfl rfl rfl ?_
   refine L_nil ?_
   refine T_block ?_
   refine T_as 0 _ (.blk g4 71 ((wpad b 0).map b64)) rfl (rfl) ?_
   refine T_loop (T := Nat) (fun k => k ≤ 8) (fun k => [(0, (.slice A n c)), (2, (.pointer (some ⟨g1, 0, none⟩))), (4, (.pointer (some ⟨g4, 0, none⟩))), (5, (.int .i64 ((k : Nat) : Int)))]) (fun k => [.blk g4 71 ((wpad b k).map b64), .blk g1 33 [(.int .i64 ((0 : Nat) : Int)), (.int .i64 ((0 : Nat) : Int)), (.int .i64 ((0 : Nat) : Int)), (b64 (0#64)), (.int .i64 ((0 : Nat) : Int)), (b64 (0#64)), (b64 (0#64)), (b64 (0#64))], .rd A 1 n c (b.map b8)]) (fun k => 8 - k) 0 (by first | trivial | ((try dsimp only); first | omega | (refine ⟨?_, ?_⟩ <;> omega) | (refine ⟨?_, ?_, ?_⟩ <;> omega) | (simp; done) | (simp; omega))) (sc rfl (sc rfl (sc rfl (sc rfl sn)))) [0, 1, 2] ⟨by decide, rfl⟩ ?_
   rintro k hp
   have hp : k ≤ 8 := hp
   have hwp := wpad_len b k hp
   refine T_re [(0, (.slice A n c)), (2, (.pointer (some ⟨g1, 0, none⟩))), (4, (.pointer (some ⟨g4, 0, none⟩))), (5, (.int .i64 ((k : Nat) : Int)))] (sc rfl (sc rfl (sc rfl (sc rfl sn)))) ?_
   refine T_he [0, 1, 2] [.blk g4 71 ((wpad b k).map b64), .blk g1 33 [(.int .i64 ((0 : Nat) : Int)), (.int .i64 ((0 : Nat) : Int)), (.int .i64 ((0 : Nat) : Int)), (b64 (0#64)), (.int .i64 ((0 : Nat) : Int)), (b64 (0#64)), (b64 (0#64)), (b64 (0#64))], .rd A 1 n c (b.map b8)] ⟨by decide, rfl⟩ ?_
   refine T_seq ?_
   refine Tsr hF rfl ?_
   refine lm rfl rfl rfl rfl rfl ?_
   refine lo rfl (pr_cmp (bo := .lss) (nc_lt (a := k) (b := 8)) rfl rfl rfl rfl) rfl rfl ?_
   refine L_nil ?_
   refine T_cond (decide (k < 8)) rfl (fun hc_5 => ?_) (fun hc_5 => ?_)
   ·
    have hc_5 := of_decide_eq_true hc_5
    refine T_skip ?_
    refine T_seq ?_
    refine T_block ?_
    refine T_reg hF rfl ?_
    refine lm rfl rfl rfl rfl rfl ?_
    refine lm rfl rfl rfl rfl rfl ?_
    refine lm rfl rfl rfl rfl rfl ?_
    refine lo rfl (pr_mul (nm_i64 (a := 8) (b := k) sd) rfl rfl rfl) rfl rfl ?_
    refine lm rfl rfl rfl rfl rfl ?_
    refine lo rfl (pr_mul (nm_i64 (a := 8) (b := k) sd) rfl rfl rfl) rfl rfl ?_
    refine lo rfl (pr_add (na_i64 (a := 8 * k) (b := 8) sd) rfl rfl rfl) rfl rfl ?_
    refine L_op rfl (op_slice_rd (l := 8 * k) (u := 8 * k + 8) 2 rfl sd sd Try.underlying23 kr rfl rfl ⟨_, rfl⟩ ⟨_, rfl⟩ rfl rfl (fun B6 => ?_))
    refine T_as 0 _ (.rd B6 1 ((8 * k + 8) - (8 * k)) (c - (8 * k)) ((List.take ((8 * k + 8) - (8 * k)) (List.drop (8 * k) b)).map b8)) rfl (by congr 1; simp [List.map_take, List.map_drop] <;> omega) ?_
    refine L_op rfl (op_cn (fun w hw => number_f (List.take ((8 * k + 8) - (8 * k)) (List.drop (8 * k) b)) B6 ((8 * k + 8) - (8 * k)) (c - (8 * k)) w (hok_cons ((src_rd 0 rfl) w hw) (hok_nil w)) sd sd) (enters_of Try.func38 kr rfl) rfl rfl rfl rfl rfl (fun t7 q8 => ?_))
    refine lo rfl (pr_ixa (j := k) (m' := k) sd (by omega) Try.underlying71 (z := 1) kr rfl rfl rfl) rfl rfl ?_
    refine L_op rfl (op_store (vs := [(b64 (low (List.take ((8 * k + 8) - (8 * k)) (List.drop (8 * k) b)) 8))]) (cs' := ((List.set (wpad b k) k (low (List.take ((8 * k + 8) - (8 * k)) (List.drop (8 * k) b)) 8)).map b64)) 1 rfl rfl kr (one_one rfl) (stl sd) (splice_map (f := b64) sd) rfl rfl rfl rfl ?_)
    refine L_nil ?_
    refine T_reg hF rfl ?_
    refine lm rfl rfl rfl rfl rfl ?_
    refine lo rfl (pr_add (na_i64 (a := k) (b := 1) sd) rfl rfl rfl) rfl rfl ?_
    refine la rfl rfl rfl rfl rfl ?_
    refine L_nil ?_
    refine T_as 0 _ (.blk g4 71 ((wpad b (k + 1)).map b64)) rfl (by rw [show 8 * k + 8 - 8 * k = 8 from by omega, wpad_set b k (by omega)]) ?_
    exact T_again (k + 1) (by first | trivial | ((try dsimp only); first | omega | (refine ⟨?_, ?_⟩ <;> omega) | (refine ⟨?_, ?_, ?_⟩ <;> omega) | (simp; done) | (simp; omega))) (by first | trivial | ((try dsimp only); first | omega | (refine ⟨?_, ?_⟩ <;> omega) | (refine ⟨?_, ?_, ?_⟩ <;> omega) | (simp; done) | (simp; omega))) (sc rfl (sc rfl (sc rfl (sc rfl sn)))) [0, 2, 3] ⟨by decide, rfl⟩
   ·
    have hc_5 := of_decide_eq_false hc_5
    refine T_exit rfl ?_
    obtain rfl : 8 = k := by omega
    refine T_as 0 _ (.blk g4 71 ((wds b 8).map b64)) rfl (by rw [wpad_all]) ?_
    refine T_seq ?_
    refine Tsr hF rfl ?_
    refine lo rfl (pr_ixa (j := 0) (m' := 0) sd (by omega) Try.underlying71 (z := 1) kr rfl rfl rfl) rfl rfl ?_
    refine lq rfl (ld_blk 0 rfl (get64 sd) Try.underlying30 rfl rfl rfl) rfl rfl ?_
    refine lo rfl (pr_cmp (bo := .lss) (cm_lt64 (ath (wds b 8) 0) (1#64)) rfl rfl rfl rfl) rfl rfl ?_
    refine lm rfl rfl rfl rfl rfl ?_
    rcases Bool.eq_false_or_eq_true (decide ((ath (wds b 8) 0) < 1#64)) with hc_9 | hc_9
    ·
     refine T_slot 31 (.bool (decide ((ath (wds b 8) 0) < 1#64))) (.bool true) rfl (congrArg _ hc_9) ?_
     refine T_slot 30 (.bool (decide ((ath (wds b 8) 0) < 1#64))) (.bool true) rfl (congrArg _ hc_9) ?_
     have hc_9 := of_decide_eq_true hc_9
     refine L_skip rfl rfl rfl ?_
     refine L_skip rfl rfl rfl ?_
     refine L_skip rfl rfl rfl ?_
     refine lo rfl (pr_pick_t rfl rfl rfl) rfl rfl ?_
     refine lm rfl rfl rfl rfl rfl ?_
     refine L_skip rfl rfl rfl ?_
     refine L_skip rfl rfl rfl ?_
     refine L_skip rfl rfl rfl ?_
     refine lo rfl (pr_pick_t rfl rfl rfl) rfl rfl ?_
     refine lm rfl rfl rfl rfl rfl ?_
     refine L_skip rfl rfl rfl ?_
     refine L_skip rfl rfl rfl ?_
     refine L_skip rfl rfl rfl ?_
     refine lo rfl (pr_pick_t rfl rfl rfl) rfl rfl ?_
     refine lm rfl rfl rfl rfl rfl ?_
     refine L_skip rfl rfl rfl ?_
     refine L_skip rfl rfl rfl ?_
     refine L_skip rfl rfl rfl ?_
     refine lo rfl (pr_pick_t rfl rfl rfl) rfl rfl ?_
     refine L_nil ?_
     refine T_cond_t rfl ?_
     refine Tsr hF rfl ?_
     refine lo rfl (pr_build (qs := []) (v := .agg [(.int .i64 ((0 : Nat) : Int)), (.int .i64 ((0 : Nat) : Int)), (.int .i64 ((0 : Nat) : Int)), (b64 (0#64)), (.int .i64 ((0 : Nat) : Int)), (b64 (0#64)), (b64 (0#64)), (b64 (0#64))].toArray) (fun _ => by kernel_rfl) rfl rfl) rfl rfl ?_
     refine L_op rfl (op_sto (n := 8) (vs := [(.int .i64 ((0 : Nat) : Int)), (.int .i64 ((0 : Nat) : Int)), (.int .i64 ((0 : Nat) : Int)), (b64 (0#64)), (.int .i64 ((0 : Nat) : Int)), (b64 (0#64)), (b64 (0#64)), (b64 (0#64))]) 1 rfl rfl kr (by simp [Value.oneCell']) kr kr rfl rfl rfl rfl ?_)
     refine la rfl rfl rfl rfl rfl ?_
     refine L_nil ?_
     refine T_ret ?_
     refine T_as 0 _ (.blk g1 33 (ltv b)) rfl (by first | rfl | (rw [ltv_short (by omega)]; rfl) | (rw [ltv_long (by omega)]; rfl) | rw [lte_short (by omega)] | rw [lte_long (by omega)] | (rw [ltv_ok (by omega) (by assumption) (by assumption) (by assumption) (by assumption) (by assumption)]; rfl) | rw [lte_ok (by omega) (by assumption) (by assumption) (by assumption) (by assumption) (by assumption)] | (rw [ltv_bad (lbad1 (by assumption))]; rfl) | rw [lte_bad (by omega) (lbad1 (by assumption))] | (rw [ltv_bad (lbad2 (by assumption))]; rfl) | rw [lte_bad (by omega) (lbad2 (by assumption))] | (rw [ltv_bad (lbad3 (by assumption))]; rfl) | rw [lte_bad (by omega) (lbad3 (by assumption))] | (rw [ltv_bad (lbad4 (by assumption))]; rfl) | rw [lte_bad (by omega) (lbad4 (by assumption))] | (rw [ltv_bad (lbad5 (by assumption))]; rfl) | rw [lte_bad (by omega) (lbad5 (by assumption))]) ?_
     refine T_slot 3 (.int .i64 ((4 : Nat) : Int)) (.int .i64 (((lte b) : Nat) : Int)) rfl (by first | rfl | (rw [ltv_short (by omega)]; rfl) | (rw [ltv_long (by omega)]; rfl) | rw [lte_short (by omega)] | rw [lte_long (by omega)] | (rw [ltv_ok (by omega) (by assumption) (by assumption) (by assumption) (by assumption) (by assumption)]; rfl) | rw [lte_ok (by omega) (by assumption) (by assumption) (by assumption) (by assumption) (by assumption)] | (rw [ltv_bad (lbad1 (by assumption))]; rfl) | rw [lte_bad (by omega) (lbad1 (by assumption))] | (rw [ltv_bad (lbad2 (by assumption))]; rfl) | rw [lte_bad (by omega) (lbad2 (by assumption))] | (rw [ltv_bad (lbad3 (by assumption))]; rfl) | rw [lte_bad (by omega) (lbad3 (by assumption))] | (rw [ltv_bad (lbad4 (by assumption))]; rfl) | rw [lte_bad (by omega) (lbad4 (by assumption))] | (rw [ltv_bad (lbad5 (by assumption))]; rfl) | rw [lte_bad (by omega) (lbad5 (by assumption))]) ?_
     exact T_fin () (by first | trivial | omega | (simp; done)) (resct 0 rfl rfl rfl Try.underlying33 rfl (fwz (n := 8) kr sd) rfl) [] ⟨by decide, rfl⟩ rfl
    ·
     refine T_slot 31 (.bool (decide ((ath (wds b 8) 0) < 1#64))) (.bool false) rfl (congrArg _ hc_9) ?_
     refine T_slot 30 (.bool (decide ((ath (wds b 8) 0) < 1#64))) (.bool false) rfl (congrArg _ hc_9) ?_
     have hc_9 := of_decide_eq_false hc_9
     refine lo rfl (pr_ixa (j := 0) (m' := 0) sd (by omega) Try.underlying71 (z := 1) kr rfl rfl rfl) rfl rfl ?_
     refine lq rfl (ld_blk 0 rfl (get64 sd) Try.underlying30 rfl rfl rfl) rfl rfl ?_
     refine lo rfl (pr_cmp (bo := .gtr) (cm_lt64 (5#64) (ath (wds b 8) 0)) rfl rfl rfl rfl) rfl rfl ?_
     refine lo rfl (pr_pick_f rfl rfl rfl) rfl rfl ?_
     refine lm rfl rfl rfl rfl rfl ?_
     rcases Bool.eq_false_or_eq_true (decide (5#64 < (ath (wds b 8) 0))) with hc_10 | hc_10
     ·
      refine T_slot 36 (.bool (decide (5#64 < (ath (wds b 8) 0)))) (.bool true) rfl (congrArg _ hc_10) ?_
      refine T_slot 34 (.bool (decide (5#64 < (ath (wds b 8) 0)))) (.bool true) rfl (congrArg _ hc_10) ?_
      refine T_slot 35 (.bool (decide (5#64 < (ath (wds b 8) 0)))) (.bool true) rfl (congrArg _ hc_10) ?_
      have hc_10 := of_decide_eq_true hc_10
      refine L_skip rfl rfl rfl ?_
      refine L_skip rfl rfl rfl ?_
      refine L_skip rfl rfl rfl ?_
      refine lo rfl (pr_pick_t rfl rfl rfl) rfl rfl ?_
      refine lm rfl rfl rfl rfl rfl ?_
      refine L_skip rfl rfl rfl ?_
      refine L_skip rfl rfl rfl ?_
      refine L_skip rfl rfl rfl ?_
      refine lo rfl (pr_pick_t rfl rfl rfl) rfl rfl ?_
      refine lm rfl rfl rfl rfl rfl ?_
      refine L_skip rfl rfl rfl ?_
      refine L_skip rfl rfl rfl ?_
      refine L_skip rfl rfl rfl ?_
      refine lo rfl (pr_pick_t rfl rfl rfl) rfl rfl ?_
      refine L_nil ?_
      refine T_cond_t rfl ?_
      refine Tsr hF rfl ?_
      refine lo rfl (pr_build (qs := []) (v := .agg [(.int .i64 ((0 : Nat) : Int)), (.int .i64 ((0 : Nat) : Int)), (.int .i64 ((0 : Nat) : Int)), (b64 (0#64)), (.int .i64 ((0 : Nat) : Int)), (b64 (0#64)), (b64 (0#64)), (b64 (0#64))].toArray) (fun _ => by kernel_rfl) rfl rfl) rfl rfl ?_
      refine L_op rfl (op_sto (n := 8) (vs := [(.int .i64 ((0 : Nat) : Int)), (.int .i64 ((0 : Nat) : Int)), (.int .i64 ((0 : Nat) : Int)), (b64 (0#64)), (.int .i64 ((0 : Nat) : Int)), (b64 (0#64)), (b64 (0#64)), (b64 (0#64))]) 1 rfl rfl kr (by simp [Value.oneCell']) kr kr rfl rfl rfl rfl ?_)
      refine la rfl rfl rfl rfl rfl ?_
      refine L_nil ?_
      refine T_ret ?_
      refine T_as 0 _ (.blk g1 33 (ltv b)) rfl (by first | rfl | (rw [ltv_short (by omega)]; rfl) | (rw [ltv_long (by omega)]; rfl) | rw [lte_short (by omega)] | rw [lte_long (by omega)] | (rw [ltv_ok (by omega) (by assumption) (by assumption) (by assumption) (by assumption) (by assumption)]; rfl) | rw [lte_ok (by omega) (by assumption) (by assumption) (by assumption) (by assumption) (by assumption)] | (rw [ltv_bad (lbad1 (by assumption))]; rfl) | rw [lte_bad (by omega) (lbad1 (by assumption))] | (rw [ltv_bad (lbad2 (by assumption))]; rfl) | rw [lte_bad (by omega) (lbad2 (by assumption))] | (rw [ltv_bad (lbad3 (by assumption))]; rfl) | rw [lte_bad (by omega) (lbad3 (by assumption))] | (rw [ltv_bad (lbad4 (by assumption))]; rfl) | rw [lte_bad (by omega) (lbad4 (by assumption))] | (rw [ltv_bad (lbad5 (by assumption))]; rfl) | rw [lte_bad (by omega) (lbad5 (by assumption))]) ?_
      refine T_slot 3 (.int .i64 ((4 : Nat) : Int)) (.int .i64 (((lte b) : Nat) : Int)) rfl (by first | rfl | (rw [ltv_short (by omega)]; rfl) | (rw [ltv_long (by omega)]; rfl) | rw [lte_short (by omega)] | rw [lte_long (by omega)] | (rw [ltv_ok (by omega) (by assumption) (by assumption) (by assumption) (by assumption) (by assumption)]; rfl) | rw [lte_ok (by omega) (by assumption) (by assumption) (by assumption) (by assumption) (by assumption)] | (rw [ltv_bad (lbad1 (by assumption))]; rfl) | rw [lte_bad (by omega) (lbad1 (by assumption))] | (rw [ltv_bad (lbad2 (by assumption))]; rfl) | rw [lte_bad (by omega) (lbad2 (by assumption))] | (rw [ltv_bad (lbad3 (by assumption))]; rfl) | rw [lte_bad (by omega) (lbad3 (by assumption))] | (rw [ltv_bad (lbad4 (by assumption))]; rfl) | rw [lte_bad (by omega) (lbad4 (by assumption))] | (rw [ltv_bad (lbad5 (by assumption))]; rfl) | rw [lte_bad (by omega) (lbad5 (by assumption))]) ?_
      exact T_fin () (by first | trivial | omega | (simp; done)) (resct 0 rfl rfl rfl Try.underlying33 rfl (fwz (n := 8) kr sd) rfl) [] ⟨by decide, rfl⟩ rfl
     ·
      refine T_slot 36 (.bool (decide (5#64 < (ath (wds b 8) 0)))) (.bool false) rfl (congrArg _ hc_10) ?_
      refine T_slot 34 (.bool (decide (5#64 < (ath (wds b 8) 0)))) (.bool false) rfl (congrArg _ hc_10) ?_
      refine T_slot 35 (.bool (decide (5#64 < (ath (wds b 8) 0)))) (.bool false) rfl (congrArg _ hc_10) ?_
      have hc_10 := of_decide_eq_false hc_10
      refine lo rfl (pr_ixa (j := 1) (m' := 1) sd (by omega) Try.underlying71 (z := 1) kr rfl rfl rfl) rfl rfl ?_
      refine lq rfl (ld_blk 0 rfl (get64 sd) Try.underlying30 rfl rfl rfl) rfl rfl ?_
      refine lo rfl (pr_cmp (bo := .gtr) (cm_lt64 (4#64) (ath (wds b 8) 1)) rfl rfl rfl rfl) rfl rfl ?_
      refine lo rfl (pr_pick_f rfl rfl rfl) rfl rfl ?_
      refine lm rfl rfl rfl rfl rfl ?_
      rcases Bool.eq_false_or_eq_true (decide (4#64 < (ath (wds b 8) 1))) with hc_11 | hc_11
      ·
       refine T_slot 41 (.bool (decide (4#64 < (ath (wds b 8) 1)))) (.bool true) rfl (congrArg _ hc_11) ?_
       refine T_slot 39 (.bool (decide (4#64 < (ath (wds b 8) 1)))) (.bool true) rfl (congrArg _ hc_11) ?_
       refine T_slot 40 (.bool (decide (4#64 < (ath (wds b 8) 1)))) (.bool true) rfl (congrArg _ hc_11) ?_
       have hc_11 := of_decide_eq_true hc_11
       refine L_skip rfl rfl rfl ?_
       refine L_skip rfl rfl rfl ?_
       refine L_skip rfl rfl rfl ?_
       refine lo rfl (pr_pick_t rfl rfl rfl) rfl rfl ?_
       refine lm rfl rfl rfl rfl rfl ?_
       refine L_skip rfl rfl rfl ?_
       refine L_skip rfl rfl rfl ?_
       refine L_skip rfl rfl rfl ?_
       refine lo rfl (pr_pick_t rfl rfl rfl) rfl rfl ?_
       refine L_nil ?_
       refine T_cond_t rfl ?_
       refine Tsr hF rfl ?_
       refine lo rfl (pr_build (qs := []) (v := .agg [(.int .i64 ((0 : Nat) : Int)), (.int .i64 ((0 : Nat) : Int)), (.int .i64 ((0 : Nat) : Int)), (b64 (0#64)), (.int .i64 ((0 : Nat) : Int)), (b64 (0#64)), (b64 (0#64)), (b64 (0#64))].toArray) (fun _ => by kernel_rfl) rfl rfl) rfl rfl ?_
       refine L_op rfl (op_sto (n := 8) (vs := [(.int .i64 ((0 : Nat) : Int)), (.int .i64 ((0 : Nat) : Int)), (.int .i64 ((0 : Nat) : Int)), (b64 (0#64)), (.int .i64 ((0 : Nat) : Int)), (b64 (0#64)), (b64 (0#64)), (b64 (0#64))]) 1 rfl rfl kr (by simp [Value.oneCell']) kr kr rfl rfl rfl rfl ?_)
       refine la rfl rfl rfl rfl rfl ?_
       refine L_nil ?_
       refine T_ret ?_
       refine T_as 0 _ (.blk g1 33 (ltv b)) rfl (by first | rfl | (rw [ltv_short (by omega)]; rfl) | (rw [ltv_long (by omega)]; rfl) | rw [lte_short (by omega)] | rw [lte_long (by omega)] | (rw [ltv_ok (by omega) (by assumption) (by assumption) (by assumption) (by assumption) (by assumption)]; rfl) | rw [lte_ok (by omega) (by assumption) (by assumption) (by assumption) (by assumption) (by assumption)] | (rw [ltv_bad (lbad1 (by assumption))]; rfl) | rw [lte_bad (by omega) (lbad1 (by assumption))] | (rw [ltv_bad (lbad2 (by assumption))]; rfl) | rw [lte_bad (by omega) (lbad2 (by assumption))] | (rw [ltv_bad (lbad3 (by assumption))]; rfl) | rw [lte_bad (by omega) (lbad3 (by assumption))] | (rw [ltv_bad (lbad4 (by assumption))]; rfl) | rw [lte_bad (by omega) (lbad4 (by assumption))] | (rw [ltv_bad (lbad5 (by assumption))]; rfl) | rw [lte_bad (by omega) (lbad5 (by assumption))]) ?_
       refine T_slot 3 (.int .i64 ((4 : Nat) : Int)) (.int .i64 (((lte b) : Nat) : Int)) rfl (by first | rfl | (rw [ltv_short (by omega)]; rfl) | (rw [ltv_long (by omega)]; rfl) | rw [lte_short (by omega)] | rw [lte_long (by omega)] | (rw [ltv_ok (by omega) (by assumption) (by assumption) (by assumption) (by assumption) (by assumption)]; rfl) | rw [lte_ok (by omega) (by assumption) (by assumption) (by assumption) (by assumption) (by assumption)] | (rw [ltv_bad (lbad1 (by assumption))]; rfl) | rw [lte_bad (by omega) (lbad1 (by assumption))] | (rw [ltv_bad (lbad2 (by assumption))]; rfl) | rw [lte_bad (by omega) (lbad2 (by assumption))] | (rw [ltv_bad (lbad3 (by assumption))]; rfl) | rw [lte_bad (by omega) (lbad3 (by assumption))] | (rw [ltv_bad (lbad4 (by assumption))]; rfl) | rw [lte_bad (by omega) (lbad4 (by assumption))] | (rw [ltv_bad (lbad5 (by assumption))]; rfl) | rw [lte_bad (by omega) (lbad5 (by assumption))]) ?_
       exact T_fin () (by first | trivial | omega | (simp; done)) (resct 0 rfl rfl rfl Try.underlying33 rfl (fwz (n := 8) kr sd) rfl) [] ⟨by decide, rfl⟩ rfl
      ·
       refine T_slot 41 (.bool (decide (4#64 < (ath (wds b 8) 1)))) (.bool false) rfl (congrArg _ hc_11) ?_
       refine T_slot 39 (.bool (decide (4#64 < (ath (wds b 8) 1)))) (.bool false) rfl (congrArg _ hc_11) ?_
       refine T_slot 40 (.bool (decide (4#64 < (ath (wds b 8) 1)))) (.bool false) rfl (congrArg _ hc_11) ?_
       have hc_11 := of_decide_eq_false hc_11
       refine lo rfl (pr_ixa (j := 2) (m' := 2) sd (by omega) Try.underlying71 (z := 1) kr rfl rfl rfl) rfl rfl ?_
       refine lq rfl (ld_blk 0 rfl (get64 sd) Try.underlying30 rfl rfl rfl) rfl rfl ?_
       refine lo rfl (pr_cmp (bo := .gtr) (cm_lt64 (4#64) (ath (wds b 8) 2)) rfl rfl rfl rfl) rfl rfl ?_
       refine lo rfl (pr_pick_f rfl rfl rfl) rfl rfl ?_
       refine lm rfl rfl rfl rfl rfl ?_
       rcases Bool.eq_false_or_eq_true (decide (4#64 < (ath (wds b 8) 2))) with hc_12 | hc_12
       ·
        refine T_slot 46 (.bool (decide (4#64 < (ath (wds b 8) 2)))) (.bool true) rfl (congrArg _ hc_12) ?_
        refine T_slot 44 (.bool (decide (4#64 < (ath (wds b 8) 2)))) (.bool true) rfl (congrArg _ hc_12) ?_
        refine T_slot 45 (.bool (decide (4#64 < (ath (wds b 8) 2)))) (.bool true) rfl (congrArg _ hc_12) ?_
        have hc_12 := of_decide_eq_true hc_12
        refine L_skip rfl rfl rfl ?_
        refine L_skip rfl rfl rfl ?_
        refine L_skip rfl rfl rfl ?_
        refine lo rfl (pr_pick_t rfl rfl rfl) rfl rfl ?_
        refine L_nil ?_
        refine T_cond_t rfl ?_
        refine Tsr hF rfl ?_
        refine lo rfl (pr_build (qs := []) (v := .agg [(.int .i64 ((0 : Nat) : Int)), (.int .i64 ((0 : Nat) : Int)), (.int .i64 ((0 : Nat) : Int)), (b64 (0#64)), (.int .i64 ((0 : Nat) : Int)), (b64 (0#64)), (b64 (0#64)), (b64 (0#64))].toArray) (fun _ => by kernel_rfl) rfl rfl) rfl rfl ?_
        refine L_op rfl (op_sto (n := 8) (vs := [(.int .i64 ((0 : Nat) : Int)), (.int .i64 ((0 : Nat) : Int)), (.int .i64 ((0 : Nat) : Int)), (b64 (0#64)), (.int .i64 ((0 : Nat) : Int)), (b64 (0#64)), (b64 (0#64)), (b64 (0#64))]) 1 rfl rfl kr (by simp [Value.oneCell']) kr kr rfl rfl rfl rfl ?_)
        refine la rfl rfl rfl rfl rfl ?_
        refine L_nil ?_
        refine T_ret ?_
        refine T_as 0 _ (.blk g1 33 (ltv b)) rfl (by first | rfl | (rw [ltv_short (by omega)]; rfl) | (rw [ltv_long (by omega)]; rfl) | rw [lte_short (by omega)] | rw [lte_long (by omega)] | (rw [ltv_ok (by omega) (by assumption) (by assumption) (by assumption) (by assumption) (by assumption)]; rfl) | rw [lte_ok (by omega) (by assumption) (by assumption) (by assumption) (by assumption) (by assumption)] | (rw [ltv_bad (lbad1 (by assumption))]; rfl) | rw [lte_bad (by omega) (lbad1 (by assumption))] | (rw [ltv_bad (lbad2 (by assumption))]; rfl) | rw [lte_bad (by omega) (lbad2 (by assumption))] | (rw [ltv_bad (lbad3 (by assumption))]; rfl) | rw [lte_bad (by omega) (lbad3 (by assumption))] | (rw [ltv_bad (lbad4 (by assumption))]; rfl) | rw [lte_bad (by omega) (lbad4 (by assumption))] | (rw [ltv_bad (lbad5 (by assumption))]; rfl) | rw [lte_bad (by omega) (lbad5 (by assumption))]) ?_
        refine T_slot 3 (.int .i64 ((4 : Nat) : Int)) (.int .i64 (((lte b) : Nat) : Int)) rfl (by first | rfl | (rw [ltv_short (by omega)]; rfl) | (rw [ltv_long (by omega)]; rfl) | rw [lte_short (by omega)] | rw [lte_long (by omega)] | (rw [ltv_ok (by omega) (by assumption) (by assumption) (by assumption) (by assumption) (by assumption)]; rfl) | rw [lte_ok (by omega) (by assumption) (by assumption) (by assumption) (by assumption) (by assumption)] | (rw [ltv_bad (lbad1 (by assumption))]; rfl) | rw [lte_bad (by omega) (lbad1 (by assumption))] | (rw [ltv_bad (lbad2 (by assumption))]; rfl) | rw [lte_bad (by omega) (lbad2 (by assumption))] | (rw [ltv_bad (lbad3 (by assumption))]; rfl) | rw [lte_bad (by omega) (lbad3 (by assumption))] | (rw [ltv_bad (lbad4 (by assumption))]; rfl) | rw [lte_bad (by omega) (lbad4 (by assumption))] | (rw [ltv_bad (lbad5 (by assumption))]; rfl) | rw [lte_bad (by omega) (lbad5 (by assumption))]) ?_
        exact T_fin () (by first | trivial | omega | (simp; done)) (resct 0 rfl rfl rfl Try.underlying33 rfl (fwz (n := 8) kr sd) rfl) [] ⟨by decide, rfl⟩ rfl
       ·
        refine T_slot 46 (.bool (decide (4#64 < (ath (wds b 8) 2)))) (.bool false) rfl (congrArg _ hc_12) ?_
        refine T_slot 44 (.bool (decide (4#64 < (ath (wds b 8) 2)))) (.bool false) rfl (congrArg _ hc_12) ?_
        refine T_slot 45 (.bool (decide (4#64 < (ath (wds b 8) 2)))) (.bool false) rfl (congrArg _ hc_12) ?_
        have hc_12 := of_decide_eq_false hc_12
        refine lo rfl (pr_ixa (j := 4) (m' := 4) sd (by omega) Try.underlying71 (z := 1) kr rfl rfl rfl) rfl rfl ?_
        refine lq rfl (ld_blk 0 rfl (get64 sd) Try.underlying30 rfl rfl rfl) rfl rfl ?_
        refine lo rfl (pr_cmp (bo := .gtr) (cm_lt64 (4000#64) (ath (wds b 8) 4)) rfl rfl rfl rfl) rfl rfl ?_
        refine lo rfl (pr_pick_f rfl rfl rfl) rfl rfl ?_
        refine L_nil ?_
        refine T_cond (decide (4000#64 < (ath (wds b 8) 4))) rfl (fun hc_13 => ?_) (fun hc_13 => ?_)
        ·
         have hc_13 := of_decide_eq_true hc_13
         refine Tsr hF rfl ?_
         refine lo rfl (pr_build (qs := []) (v := .agg [(.int .i64 ((0 : Nat) : Int)), (.int .i64 ((0 : Nat) : Int)), (.int .i64 ((0 : Nat) : Int)), (b64 (0#64)), (.int .i64 ((0 : Nat) : Int)), (b64 (0#64)), (b64 (0#64)), (b64 (0#64))].toArray) (fun _ => by kernel_rfl) rfl rfl) rfl rfl ?_
         refine L_op rfl (op_sto (n := 8) (vs := [(.int .i64 ((0 : Nat) : Int)), (.int .i64 ((0 : Nat) : Int)), (.int .i64 ((0 : Nat) : Int)), (b64 (0#64)), (.int .i64 ((0 : Nat) : Int)), (b64 (0#64)), (b64 (0#64)), (b64 (0#64))]) 1 rfl rfl kr (by simp [Value.oneCell']) kr kr rfl rfl rfl rfl ?_)
         refine la rfl rfl rfl rfl rfl ?_
         refine L_nil ?_
         refine T_ret ?_
         refine T_as 0 _ (.blk g1 33 (ltv b)) rfl (by first | rfl | (rw [ltv_short (by omega)]; rfl) | (rw [ltv_long (by omega)]; rfl) | rw [lte_short (by omega)] | rw [lte_long (by omega)] | (rw [ltv_ok (by omega) (by assumption) (by assumption) (by assumption) (by assumption) (by assumption)]; rfl) | rw [lte_ok (by omega) (by assumption) (by assumption) (by assumption) (by assumption) (by assumption)] | (rw [ltv_bad (lbad1 (by assumption))]; rfl) | rw [lte_bad (by omega) (lbad1 (by assumption))] | (rw [ltv_bad (lbad2 (by assumption))]; rfl) | rw [lte_bad (by omega) (lbad2 (by assumption))] | (rw [ltv_bad (lbad3 (by assumption))]; rfl) | rw [lte_bad (by omega) (lbad3 (by assumption))] | (rw [ltv_bad (lbad4 (by assumption))]; rfl) | rw [lte_bad (by omega) (lbad4 (by assumption))] | (rw [ltv_bad (lbad5 (by assumption))]; rfl) | rw [lte_bad (by omega) (lbad5 (by assumption))]) ?_
         refine T_slot 3 (.int .i64 ((4 : Nat) : Int)) (.int .i64 (((lte b) : Nat) : Int)) rfl (by first | rfl | (rw [ltv_short (by omega)]; rfl) | (rw [ltv_long (by omega)]; rfl) | rw [lte_short (by omega)] | rw [lte_long (by omega)] | (rw [ltv_ok (by omega) (by assumption) (by assumption) (by assumption) (by assumption) (by assumption)]; rfl) | rw [lte_ok (by omega) (by assumption) (by assumption) (by assumption) (by assumption) (by assumption)] | (rw [ltv_bad (lbad1 (by assumption))]; rfl) | rw [lte_bad (by omega) (lbad1 (by assumption))] | (rw [ltv_bad (lbad2 (by assumption))]; rfl) | rw [lte_bad (by omega) (lbad2 (by assumption))] | (rw [ltv_bad (lbad3 (by assumption))]; rfl) | rw [lte_bad (by omega) (lbad3 (by assumption))] | (rw [ltv_bad (lbad4 (by assumption))]; rfl) | rw [lte_bad (by omega) (lbad4 (by assumption))] | (rw [ltv_bad (lbad5 (by assumption))]; rfl) | rw [lte_bad (by omega) (lbad5 (by assumption))]) ?_
         exact T_fin () (by first | trivial | omega | (simp; done)) (resct 0 rfl rfl rfl Try.underlying33 rfl (fwz (n := 8) kr sd) rfl) [] ⟨by decide, rfl⟩ rfl
        ·
         have hc_13 := of_decide_eq_false hc_13
         refine T_skip ?_
         refine Tsr hF rfl ?_
         refine lo rfl (pr_ixa (j := 0) (m' := 0) sd (by omega) Try.underlying71 (z := 1) kr rfl rfl rfl) rfl rfl ?_
         have hb0 : (ath (wds b 8) 0).toNat ≤ 5 := nle64 (show ¬ 5#64 < ath (wds b 8) 0 by assumption)
         have hb1 : (ath (wds b 8) 1).toNat ≤ 4 := nle64 (show ¬ 4#64 < ath (wds b 8) 1 by assumption)
         have hb2 : (ath (wds b 8) 2).toNat ≤ 4 := nle64 (show ¬ 4#64 < ath (wds b 8) 2 by assumption)
         have hb3 : (ath (wds b 8) 4).toNat ≤ 4000 := nle64 (show ¬ 4000#64 < ath (wds b 8) 4 by assumption)
         refine lq rfl (ld_blk 0 rfl (get64 sd) Try.underlying30 rfl rfl rfl) rfl rfl ?_
         refine lo rfl (pr_cv (n64i sd) Try.underlying30 Try.underlying3 rfl rfl) rfl rfl ?_
         refine lo rfl (pr_ixa (j := 1) (m' := 1) sd (by omega) Try.underlying71 (z := 1) kr rfl rfl rfl) rfl rfl ?_
         refine lq rfl (ld_blk 0 rfl (get64 sd) Try.underlying30 rfl rfl rfl) rfl rfl ?_
         refine lo rfl (pr_cv (n64i sd) Try.underlying30 Try.underlying3 rfl rfl) rfl rfl ?_
         refine lo rfl (pr_ixa (j := 2) (m' := 2) sd (by omega) Try.underlying71 (z := 1) kr rfl rfl rfl) rfl rfl ?_
         refine lq rfl (ld_blk 0 rfl (get64 sd) Try.underlying30 rfl rfl rfl) rfl rfl ?_
         refine lo rfl (pr_cv (n64i sd) Try.underlying30 Try.underlying3 rfl rfl) rfl rfl ?_
         refine lo rfl (pr_ixa (j := 3) (m' := 3) sd (by omega) Try.underlying71 (z := 1) kr rfl rfl rfl) rfl rfl ?_
         refine lq rfl (ld_blk 0 rfl (get64 sd) Try.underlying30 rfl rfl rfl) rfl rfl ?_
         refine lo rfl (pr_ixa (j := 4) (m' := 4) sd (by omega) Try.underlying71 (z := 1) kr rfl rfl rfl) rfl rfl ?_
         refine lq rfl (ld_blk 0 rfl (get64 sd) Try.underlying30 rfl rfl rfl) rfl rfl ?_
         refine lo rfl (pr_cv (n64i sd) Try.underlying30 Try.underlying3 rfl rfl) rfl rfl ?_
         refine lo rfl (pr_ixa (j := 5) (m' := 5) sd (by omega) Try.underlying71 (z := 1) kr rfl rfl rfl) rfl rfl ?_
         refine lq rfl (ld_blk 0 rfl (get64 sd) Try.underlying30 rfl rfl rfl) rfl rfl ?_
         refine lo rfl (pr_ixa (j := 6) (m' := 6) sd (by omega) Try.underlying71 (z := 1) kr rfl rfl rfl) rfl rfl ?_
         refine lq rfl (ld_blk 0 rfl (get64 sd) Try.underlying30 rfl rfl rfl) rfl rfl ?_
         refine lo rfl (pr_ixa (j := 7) (m' := 7) sd (by omega) Try.underlying71 (z := 1) kr rfl rfl rfl) rfl rfl ?_
         refine lq rfl (ld_blk 0 rfl (get64 sd) Try.underlying30 rfl rfl rfl) rfl rfl ?_
         refine lo rfl (pr_build (qs := [(0, (b64 (ath (wds b 8) 6))), (1, (b64 (ath (wds b 8) 7)))]) (v := .agg [(b64 (ath (wds b 8) 6)), (b64 (ath (wds b 8) 7))].toArray) (fun _ => by kernel_rfl) rfl rfl) rfl rfl ?_
         refine lo rfl (pr_build (qs := [(0, (.int .i64 (((ath (wds b 8) 0).toNat : Nat) : Int))), (1, (.int .i64 (((ath (wds b 8) 1).toNat : Nat) : Int))), (2, (.int .i64 (((ath (wds b 8) 2).toNat : Nat) : Int))), (3, (b64 (ath (wds b 8) 3))), (4, (.int .i64 (((ath (wds b 8) 4).toNat : Nat) : Int))), (5, (b64 (ath (wds b 8) 5))), (6, (.agg [(b64 (ath (wds b 8) 6)), (b64 (ath (wds b 8) 7))].toArray))]) (v := .agg [(.int .i64 (((ath (wds b 8) 0).toNat : Nat) : Int)), (.int .i64 (((ath (wds b 8) 1).toNat : Nat) : Int)), (.int .i64 (((ath (wds b 8) 2).toNat : Nat) : Int)), (b64 (ath (wds b 8) 3)), (.int .i64 (((ath (wds b 8) 4).toNat : Nat) : Int)), (b64 (ath (wds b 8) 5)), (b64 (ath (wds b 8) 6)), (b64 (ath (wds b 8) 7))].toArray) (fun _ => by kernel_rfl) rfl rfl) rfl rfl ?_
         refine L_op rfl (op_sto (n := 8) (vs := [(.int .i64 (((ath (wds b 8) 0).toNat : Nat) : Int)), (.int .i64 (((ath (wds b 8) 1).toNat : Nat) : Int)), (.int .i64 (((ath (wds b 8) 2).toNat : Nat) : Int)), (b64 (ath (wds b 8) 3)), (.int .i64 (((ath (wds b 8) 4).toNat : Nat) : Int)), (b64 (ath (wds b 8) 5)), (b64 (ath (wds b 8) 6)), (b64 (ath (wds b 8) 7))]) 1 rfl rfl kr (by simp [Value.oneCell']) kr kr rfl rfl rfl rfl ?_)
         refine la rfl rfl rfl rfl rfl ?_
         refine L_nil ?_
         refine T_ret ?_
         refine T_as 0 _ (.blk g1 33 (ltv b)) rfl (by first | rfl | (rw [ltv_short (by omega)]; rfl) | (rw [ltv_long (by omega)]; rfl) | rw [lte_short (by omega)] | rw [lte_long (by omega)] | (rw [ltv_ok (by omega) (by assumption) (by assumption) (by assumption) (by assumption) (by assumption)]; rfl) | rw [lte_ok (by omega) (by assumption) (by assumption) (by assumption) (by assumption) (by assumption)] | (rw [ltv_bad (lbad1 (by assumption))]; rfl) | rw [lte_bad (by omega) (lbad1 (by assumption))] | (rw [ltv_bad (lbad2 (by assumption))]; rfl) | rw [lte_bad (by omega) (lbad2 (by assumption))] | (rw [ltv_bad (lbad3 (by assumption))]; rfl) | rw [lte_bad (by omega) (lbad3 (by assumption))] | (rw [ltv_bad (lbad4 (by assumption))]; rfl) | rw [lte_bad (by omega) (lbad4 (by assumption))] | (rw [ltv_bad (lbad5 (by assumption))]; rfl) | rw [lte_bad (by omega) (lbad5 (by assumption))]) ?_
         refine T_slot 3 (.int .i64 ((0 : Nat) : Int)) (.int .i64 (((lte b) : Nat) : Int)) rfl (by first | rfl | (rw [ltv_short (by omega)]; rfl) | (rw [ltv_long (by omega)]; rfl) | rw [lte_short (by omega)] | rw [lte_long (by omega)] | (rw [ltv_ok (by omega) (by assumption) (by assumption) (by assumption) (by assumption) (by assumption)]; rfl) | rw [lte_ok (by omega) (by assumption) (by assumption) (by assumption) (by assumption) (by assumption)] | (rw [ltv_bad (lbad1 (by assumption))]; rfl) | rw [lte_bad (by omega) (lbad1 (by assumption))] | (rw [ltv_bad (lbad2 (by assumption))]; rfl) | rw [lte_bad (by omega) (lbad2 (by assumption))] | (rw [ltv_bad (lbad3 (by assumption))]; rfl) | rw [lte_bad (by omega) (lbad3 (by assumption))] | (rw [ltv_bad (lbad4 (by assumption))]; rfl) | rw [lte_bad (by omega) (lbad4 (by assumption))] | (rw [ltv_bad (lbad5 (by assumption))]; rfl) | rw [lte_bad (by omega) (lbad5 (by assumption))]) ?_
         exact T_fin () (by first | trivial | omega | (simp; done)) (resct 0 rfl rfl rfl Try.underlying33 rfl (fwz (n := 8) kr sd) rfl) [] ⟨by decide, rfl⟩ rfl
end Go.Proofs.Ytlplpmkdebemnaa
