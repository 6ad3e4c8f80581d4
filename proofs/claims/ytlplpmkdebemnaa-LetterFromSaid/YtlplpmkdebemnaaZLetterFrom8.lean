/- Proved: 'domino/dominolaw21.LetterFrom' returns true whatever comes in, and its arguments read behind the call as they read before it. No conditions. -/
import Derived.Test.YtlplpmkdebemnaaZLetterFrom7
import Derived.Test.YtlplpmkdebemnaaProg
import Derived.Test.YtlplpmkdebemnaaRows
import Derived.WalkKit
import Derived.ProofKit
import Derived.OpenShut
import Derived.ShutString
import Derived.ChangeOld
import Derived.Below
namespace Go.Proofs.Ytlplpmkdebemnaa
set_option linter.unusedVariables false
set_option linter.unusedSimpArgs false
set_option linter.unnecessarySimpa false
set_option maxRecDepth 100000
open Go.RowKit Bv Fw

theorem small_bv (t : Nat) (m : Nat) (h : t < m) (hm : m ≤ 1000000) : ∃ x : BitVec 64, t = x.toNat ∧ x.toNat < m := by
  refine ⟨BitVec.ofNat 64 t, ?_, ?_⟩ <;> rw [BitVec.toNat_ofNat] <;> omega
theorem i64_nat (x : BitVec 64) (h : x.toNat < 1000000) : (((x.toNat : Nat) : Int)) = i64 x := by
  unfold i64
  rw [BitVec.toInt_eq_toNat_of_lt (by omega)]
theorem ofInt_nat (x : BitVec 64) : BitVec.ofInt 64 ((x.toNat : Nat) : Int) = x := by
  rw [BitVec.ofInt_natCast, BitVec.ofNat_toNat]; simp
theorem ofInt_zero : BitVec.ofInt 64 ((0 : Nat) : Int) = 0#64 := rfl
theorem good_bad {k o s a r q : BitVec 64} {j : BitVec 64} (hk : 1 ≤ k.toNat) (hk2 : k.toNat < 6) (ho : o.toNat < 5) (hj : j.toNat < 100) : ¬ LBad [k, o, 0#64, s, j, a, r, q] := by
  intro h
  rcases h with h | h | h | h | h <;> rw [BitVec.lt_def] at h
  · have : (ath [k, o, 0#64, s, j, a, r, q] 0) = k := rfl
    rw [this] at h; have : (1#64).toNat = 1 := rfl; omega
  · have : (ath [k, o, 0#64, s, j, a, r, q] 0) = k := rfl
    rw [this] at h; have : (5#64).toNat = 5 := rfl; omega
  · have : (ath [k, o, 0#64, s, j, a, r, q] 1) = o := rfl
    rw [this] at h; have : (4#64).toNat = 4 := rfl; omega
  · have : (ath [k, o, 0#64, s, j, a, r, q] 2) = 0#64 := rfl
    rw [this] at h; have : (4#64).toNat = 4 := rfl; have : (0#64).toNat = 0 := rfl; omega
  · have : (ath [k, o, 0#64, s, j, a, r, q] 4) = j := rfl
    rw [this] at h; have : (4000#64).toNat = 4000 := rfl; omega

set_option maxRecDepth 100000 in
set_option maxHeartbeats 4000000 in
theorem letterFrom_eq_f (job : List (BitVec 8)) (fr : BitVec 64) (ot : BitVec 64) (start : BitVec 64) (n : BitVec 64) (vk : BitVec 64) (vf : BitVec 64) (vt : BitVec 64) (vs : BitVec 64) (vj : BitVec 64) (va : BitVec 64) (vr : BitVec 64) (vq : BitVec 64) (w : World) (hO : HOK [] w) (hj : job.length = 32) (hfo : ot.toNat % 5 = fr.toNat % 5) : Calls Try.prog 7 [(.agg (job.map b8).toArray), (.int .i64 (i64 fr)), (.int .i64 (i64 ot)), (b64 start), (b64 n), (.agg [(.int .i64 (i64 vk)), (.int .i64 (i64 vf)), (.int .i64 (i64 vt)), (b64 vs), (.int .i64 (i64 vj)), (b64 va), (b64 vr), (b64 vq)].toArray)].toArray w (Ret (T := Unit) [] w (fun _ => True) (fun _ => (.bool true)) (fun _ => [])) := by
 have hF : Wid Fence.wide := wid_wide
 refine enter (c := _) Try.func7 rfl [] _ [] (by rw [Try.ntmps7]; rfl) (own_rds hO rfl) ?_
 rw [Try.ntmps7]
 refine T_re [(0, (.agg (job.map b8).toArray)), (1, (.int .i64 (i64 fr))), (2, (.int .i64 (i64 ot))), (3, (b64 start)), (4, (b64 n)), (5, (.agg [(.int .i64 (i64 vk)), (.int .i64 (i64 vf)), (.int .i64 (i64 vt)), (b64 vs), (.int .i64 (i64 vj)), (b64 va), (b64 vr), (b64 vq)].toArray))] (sc rfl (sc rfl (sc rfl (sc rfl (sc rfl (sc rfl sn)))))) ?_
 refine T_he [] [] ⟨by decide, rfl⟩ ?_
 refine Tsr hF rfl ?_
 refine L_op rfl (op_box (zs := (job.map b8)) rfl rfl rfl rfl rfl (fun g1 => ?_))
 refine L_op rfl (op_box (zs := [(.int .i64 (i64 vk)), (.int .i64 (i64 vf)), (.int .i64 (i64 vt)), (b64 vs), (.int .i64 (i64 vj)), (b64 va), (b64 vr), (b64 vq)]) rfl rfl rfl rfl rfl (fun g2 => ?_))
 refine la rfl rfl rfl rfl rfl ?_
 refine L_nil ?_
 refine Tsr hF rfl ?_
 refine lm rfl rfl rfl rfl rfl ?_
 refine lo rfl (pr_cv (zc_i64u fr) Try.underlying3 Try.underlying22 rfl rfl) rfl rfl ?_
 refine lo rfl (pr_rem (a := fr.toNat) (b := 5) sd rfl rfl rfl) rfl rfl ?_
 refine lo rfl (pr_cv (ni_i64 (a := fr.toNat % 5) sd) Try.underlying22 Try.underlying3 rfl rfl) rfl rfl ?_
 obtain ⟨fm, hfm, bfm⟩ := small_bv (fr.toNat % 5) 5 (by omega) (by omega)
 refine T_slot 21 (.int .i64 ((fr.toNat % 5 : Nat) : Int)) (.int .i64 ((fm.toNat : Nat) : Int)) rfl (by rw [hfm]) ?_
 refine lm rfl rfl rfl rfl rfl ?_
 refine lo rfl (pr_cv (zc_i64u ot) Try.underlying3 Try.underlying22 rfl rfl) rfl rfl ?_
 refine lo rfl (pr_rem (a := ot.toNat) (b := 5) sd rfl rfl rfl) rfl rfl ?_
 refine lo rfl (pr_cv (ni_i64 (a := ot.toNat % 5) sd) Try.underlying22 Try.underlying3 rfl rfl) rfl rfl ?_
 obtain ⟨om, hom, bom⟩ := small_bv (ot.toNat % 5) 5 (by omega) (by omega)
 refine T_slot 25 (.int .i64 ((ot.toNat % 5 : Nat) : Int)) (.int .i64 ((om.toNat : Nat) : Int)) rfl (by rw [hom]) ?_
 have hf : om = fm := BitVec.eq_of_toNat_eq (by omega)
 refine la rfl rfl rfl rfl rfl ?_
 refine la rfl rfl rfl rfl rfl ?_
 refine L_nil ?_
 refine Tsr hF rfl ?_
 refine lo rfl (pr_fa (m := 0) (m' := 0) (z := 0) (by rfl) Try.underlying33 rfl kr rfl rfl) rfl rfl ?_
 refine lq rfl (ld_blk 0 rfl rfl Try.underlying3 rfl rfl rfl) rfl rfl ?_
 refine lo rfl (pr_cv (zc_i64u vk) Try.underlying3 Try.underlying22 rfl rfl) rfl rfl ?_
 refine lo rfl (pr_rem (a := vk.toNat) (b := 5) sd rfl rfl rfl) rfl rfl ?_
 refine lo rfl (pr_cv (ni_i64 (a := vk.toNat % 5) sd) Try.underlying22 Try.underlying3 rfl rfl) rfl rfl ?_
 refine lo rfl (pr_add (na_i64 (a := 1) (b := vk.toNat % 5) sd) rfl rfl rfl) rfl rfl ?_
 obtain ⟨km, hkm, bkm⟩ := small_bv (1 + (vk.toNat % 5)) 6 (by omega) (by omega)
 refine T_slot 31 (.int .i64 ((1 + (vk.toNat % 5) : Nat) : Int)) (.int .i64 ((km.toNat : Nat) : Int)) rfl (by rw [hkm]) ?_
 have hk1 : 1 ≤ km.toNat := by omega
 refine lo rfl (pr_fa (m := 0) (m' := 0) (z := 0) (by rfl) Try.underlying33 rfl kr rfl rfl) rfl rfl ?_
 refine L_op rfl (op_store (vs := [(.int .i64 ((km.toNat : Nat) : Int))]) (cs' := [(.int .i64 ((km.toNat : Nat) : Int)), (.int .i64 (i64 vf)), (.int .i64 (i64 vt)), (b64 vs), (.int .i64 (i64 vj)), (b64 va), (b64 vr), (b64 vq)]) 0 rfl rfl kr (one_one rfl) (by first | decide | simp | exact Nat.le_refl _) rfl rfl rfl rfl rfl ?_)
 refine L_nil ?_
 refine Tsr hF rfl ?_
 refine lm rfl rfl rfl rfl rfl ?_
 refine lo rfl (pr_fa (m := 0) (m' := 4) (z := 0) (by rfl) Try.underlying33 rfl kr rfl rfl) rfl rfl ?_
 refine lq rfl (ld_blk 0 rfl rfl Try.underlying3 rfl rfl rfl) rfl rfl ?_
 refine lo rfl (pr_cv (zc_i64u vj) Try.underlying3 Try.underlying22 rfl rfl) rfl rfl ?_
 refine lo rfl (pr_rem (a := vj.toNat) (b := 100) sd rfl rfl rfl) rfl rfl ?_
 refine lo rfl (pr_cv (ni_i64 (a := vj.toNat % 100) sd) Try.underlying22 Try.underlying3 rfl rfl) rfl rfl ?_
 obtain ⟨tm, htm, btm⟩ := small_bv (vj.toNat % 100) 100 (by omega) (by omega)
 refine T_slot 38 (.int .i64 ((vj.toNat % 100 : Nat) : Int)) (.int .i64 ((tm.toNat : Nat) : Int)) rfl (by rw [htm]) ?_
 refine lo rfl (pr_fa (m := 0) (m' := 1) (z := 0) (by rfl) Try.underlying33 rfl kr rfl rfl) rfl rfl ?_
 refine L_op rfl (op_store (vs := [(.int .i64 ((om.toNat : Nat) : Int))]) (cs' := [(.int .i64 ((km.toNat : Nat) : Int)), (.int .i64 ((om.toNat : Nat) : Int)), (.int .i64 (i64 vt)), (b64 vs), (.int .i64 (i64 vj)), (b64 va), (b64 vr), (b64 vq)]) 0 rfl rfl kr (one_one rfl) (by first | decide | simp | exact Nat.le_refl _) rfl rfl rfl rfl rfl ?_)
 refine lo rfl (pr_fa (m := 0) (m' := 2) (z := 0) (by rfl) Try.underlying33 rfl kr rfl rfl) rfl rfl ?_
 refine L_op rfl (op_store (vs := [(.int .i64 ((0 : Nat) : Int))]) (cs' := [(.int .i64 ((km.toNat : Nat) : Int)), (.int .i64 ((om.toNat : Nat) : Int)), (.int .i64 ((0 : Nat) : Int)), (b64 vs), (.int .i64 (i64 vj)), (b64 va), (b64 vr), (b64 vq)]) 0 rfl rfl kr (one_one rfl) (by first | decide | simp | exact Nat.le_refl _) rfl rfl rfl rfl rfl ?_)
 refine lo rfl (pr_fa (m := 0) (m' := 4) (z := 0) (by rfl) Try.underlying33 rfl kr rfl rfl) rfl rfl ?_
 refine L_op rfl (op_store (vs := [(.int .i64 ((tm.toNat : Nat) : Int))]) (cs' := [(.int .i64 ((km.toNat : Nat) : Int)), (.int .i64 ((om.toNat : Nat) : Int)), (.int .i64 ((0 : Nat) : Int)), (b64 vs), (.int .i64 ((tm.toNat : Nat) : Int)), (b64 va), (b64 vr), (b64 vq)]) 0 rfl rfl kr (one_one rfl) (by first | decide | simp | exact Nat.le_refl _) rfl rfl rfl rfl rfl ?_)
 refine L_nil ?_
 refine Tsr hF rfl ?_
 refine lq rfl (ld_agg (ds := (job.map b8)) 1 rfl agg_all Try.underlying50 rfl (fwz (n := 32) kr sd) rfl rfl) rfl rfl ?_
 refine lm rfl rfl rfl rfl rfl ?_
 refine T_slot 44 (.int .i64 ((fm.toNat : Nat) : Int)) (.int .i64 (i64 fm)) rfl (by rw [i64_nat _ (by omega)]) ?_
 refine lm rfl rfl rfl rfl rfl ?_
 refine lm rfl rfl rfl rfl rfl ?_
 refine lq rfl (ld_agg (ds := [(.int .i64 ((km.toNat : Nat) : Int)), (.int .i64 ((om.toNat : Nat) : Int)), (.int .i64 ((0 : Nat) : Int)), (b64 vs), (.int .i64 ((tm.toNat : Nat) : Int)), (b64 va), (b64 vr), (b64 vq)]) 0 rfl agg_all Try.underlying33 rfl kr rfl rfl) rfl rfl ?_
 refine L_op rfl (op_cn (fun w hw => lseal_f job fm start n ((km.toNat : Nat) : Int) ((om.toNat : Nat) : Int) ((0 : Nat) : Int) vs ((tm.toNat : Nat) : Int) va vr vq w (hok_nil w) (by first | assumption | exact sd)) (enters_of Try.func27 kr rfl) rfl rfl rfl rfl rfl (fun t3 q4 => ?_))
 obtain ⟨B5, d6⟩ := t3
 refine lm rfl rfl rfl rfl rfl ?_
 refine lo rfl (pr_ext (vs := [(.slice B5 104 d6), (.int .i64 ((0 : Nat) : Int))]) rfl rfl rfl) rfl rfl ?_
 refine T_as 0 _ (.row (.slice B5 104 d6) 5 1 104 ((lsealed job fm start n (eights [km, om, 0#64, vs, tm, va, vr, vq])).map b8)) rfl (by rw [ofInt_nat km, ofInt_nat om, ofInt_nat tm]; rfl) ?_
 refine T_old 0 rfl ?_
 refine T_tord 0 rfl ?_
 refine lo rfl (pr_ext (vs := [(.slice B5 104 d6), (.int .i64 ((0 : Nat) : Int))]) rfl rfl rfl) rfl rfl ?_
 refine la rfl rfl rfl rfl rfl ?_
 refine la rfl rfl rfl rfl rfl ?_
 refine L_nil ?_
 refine Tsr hF rfl ?_
 refine lq rfl (ld_agg (ds := (job.map b8)) 2 rfl agg_all Try.underlying50 rfl (fwz (n := 32) kr sd) rfl rfl) rfl rfl ?_
 refine lm rfl rfl rfl rfl rfl ?_
 refine L_op rfl (op_cn (fun w hw => lopen_eq_f job B5 d6 fm start n km om (0#64) vs tm va vr vq w (hok_cons ((src_rd 0 rfl) w hw) (hok_nil w)) (by first | assumption | exact sd) (good_bad hk1 bkm bom btm) hf) (enters_of Try.func30 kr rfl) rfl rfl rfl rfl rfl (fun t7 q8 => ?_))
 refine lm rfl rfl rfl rfl rfl ?_
 refine lo rfl (pr_ext (vs := [(.agg [(.int .i64 ((km.toNat : Nat) : Int)), (.int .i64 ((om.toNat : Nat) : Int)), (.int .i64 (((0#64).toNat : Nat) : Int)), (b64 vs), (.int .i64 ((tm.toNat : Nat) : Int)), (b64 va), (b64 vr), (b64 vq)].toArray), (b64 n), (.int .i64 ((0 : Nat) : Int))]) rfl rfl rfl) rfl rfl ?_
 refine lo rfl (pr_ext (vs := [(.agg [(.int .i64 ((km.toNat : Nat) : Int)), (.int .i64 ((om.toNat : Nat) : Int)), (.int .i64 (((0#64).toNat : Nat) : Int)), (b64 vs), (.int .i64 ((tm.toNat : Nat) : Int)), (b64 va), (b64 vr), (b64 vq)].toArray), (b64 n), (.int .i64 ((0 : Nat) : Int))]) rfl rfl rfl) rfl rfl ?_
 refine lo rfl (pr_ext (vs := [(.agg [(.int .i64 ((km.toNat : Nat) : Int)), (.int .i64 ((om.toNat : Nat) : Int)), (.int .i64 (((0#64).toNat : Nat) : Int)), (b64 vs), (.int .i64 ((tm.toNat : Nat) : Int)), (b64 va), (b64 vr), (b64 vq)].toArray), (b64 n), (.int .i64 ((0 : Nat) : Int))]) rfl rfl rfl) rfl rfl ?_
 refine L_op rfl (op_alloc (z := .agg [(.int .i64 ((0 : Nat) : Int)), (.int .i64 ((0 : Nat) : Int)), (.int .i64 ((0 : Nat) : Int)), (b64 (0#64)), (.int .i64 ((0 : Nat) : Int)), (b64 (0#64)), (b64 (0#64)), (b64 (0#64))].toArray) (zs := [(.int .i64 ((0 : Nat) : Int)), (.int .i64 ((0 : Nat) : Int)), (.int .i64 ((0 : Nat) : Int)), (b64 (0#64)), (.int .i64 ((0 : Nat) : Int)), (b64 (0#64)), (b64 (0#64)), (b64 (0#64))]) kr rfl rfl rfl rfl (fun g9 => ?_))
 refine L_op rfl (op_sto (n := 8) (vs := [(.int .i64 ((km.toNat : Nat) : Int)), (.int .i64 ((om.toNat : Nat) : Int)), (.int .i64 (((0#64).toNat : Nat) : Int)), (b64 vs), (.int .i64 ((tm.toNat : Nat) : Int)), (b64 va), (b64 vr), (b64 vq)]) 0 rfl rfl kr (by simp [Value.oneCell']) kr kr rfl rfl rfl rfl ?_)
 refine la rfl rfl rfl rfl rfl ?_
 refine la rfl rfl rfl rfl rfl ?_
 refine L_nil ?_
 refine T_seq ?_
 refine Tsr hF rfl ?_
 refine lm rfl rfl rfl rfl rfl ?_
 refine lm rfl rfl rfl rfl rfl ?_
 refine lo rfl (pr_cmp (bo := .neq) (nc_ne (a := fm.toNat) (b := om.toNat)) rfl rfl rfl rfl) rfl rfl ?_
 refine L_nil ?_
 refine T_cond_no (t := (fm.toNat != om.toNat)) rfl (by rw [hf]; simp) ?_
 refine T_skip ?_
 refine Tsr hF rfl ?_
 refine L_op rfl (op_cn (fun w hw => awake21_f  w (hok_nil w) ) (enters_of Try.func11 kr rfl) rfl rfl rfl rfl rfl (fun t10 q11 => ?_))
 refine lm rfl rfl rfl rfl rfl ?_
 refine lm rfl rfl rfl rfl rfl ?_
 refine lo rfl (pr_cmp (bo := .eql) (nc_eq (a := 0) (b := 0)) rfl rfl rfl rfl) rfl rfl ?_
 refine lo rfl (pr_pick_t rfl rfl rfl) rfl rfl ?_
 refine lm rfl rfl rfl rfl rfl ?_
 refine lm rfl rfl rfl rfl rfl ?_
 refine lo rfl (pr_cmp (bo := .eql) (nc_eq (a := 0) (b := 0)) rfl rfl rfl rfl) rfl rfl ?_
 refine lo rfl (pr_pick_t rfl rfl rfl) rfl rfl ?_
 refine lm rfl rfl rfl rfl rfl ?_
 refine lq rfl (ld_agg (ds := [(.int .i64 ((km.toNat : Nat) : Int)), (.int .i64 ((om.toNat : Nat) : Int)), (.int .i64 (((0#64).toNat : Nat) : Int)), (b64 vs), (.int .i64 ((tm.toNat : Nat) : Int)), (b64 va), (b64 vr), (b64 vq)]) 0 rfl agg_all Try.underlying33 rfl kr rfl rfl) rfl rfl ?_
 refine lq rfl (ld_agg (ds := [(.int .i64 ((km.toNat : Nat) : Int)), (.int .i64 ((om.toNat : Nat) : Int)), (.int .i64 ((0 : Nat) : Int)), (b64 vs), (.int .i64 ((tm.toNat : Nat) : Int)), (b64 va), (b64 vr), (b64 vq)]) 2 rfl agg_all Try.underlying33 rfl kr rfl rfl) rfl rfl ?_
 refine lo rfl (pr_eqs (bo := .eql) (c := (((0#64).toNat == 0) && true)) (r := (((0#64).toNat == 0) && true)) (fun _ _ => eqs Try.underlying33 kr (eqt rfl (part1 Try.underlying3 rfl rfl) (part1 Try.underlying3 rfl rfl) (eqv_si Try.underlying3) (eqt rfl (part1 Try.underlying3 rfl rfl) (part1 Try.underlying3 rfl rfl) (eqv_si Try.underlying3) (eqf rfl (part1 Try.underlying3 rfl rfl) (part1 Try.underlying3 rfl rfl) (eqv_n (a := (0#64).toNat) (b := 0) Try.underlying3) (eqt rfl (part1 Try.underlying30 rfl rfl) (part1 Try.underlying30 rfl rfl) (eqv_si Try.underlying30) (eqt rfl (part1 Try.underlying3 rfl rfl) (part1 Try.underlying3 rfl rfl) (eqv_si Try.underlying3) (eqt rfl (part1 Try.underlying30 rfl rfl) (part1 Try.underlying30 rfl rfl) (eqv_si Try.underlying30) (eqt rfl (partA (n := 2) (zs := [(b64 vr), (b64 vq)]) Try.underlying31 rfl kr rfl) (partA (n := 2) (zs := [(b64 vr), (b64 vq)]) Try.underlying31 rfl kr rfl) (eqv_sa2 Try.underlying31 Try.underlying30 kr) eqf_nil)))))))) kr rfl rfl rfl rfl rfl) rfl rfl ?_
 refine lo rfl (pr_pick_t rfl rfl rfl) rfl rfl ?_
 refine lm rfl rfl rfl rfl rfl ?_
 refine T_slot 93 (.bool (((0#64).toNat == 0) && true)) (.bool true) rfl (congrArg _ (rfl)) ?_
 refine lm rfl rfl rfl rfl rfl ?_
 refine lm rfl rfl rfl rfl rfl ?_
 refine lo rfl (pr_cmp (bo := .eql) (n64_beq n n) rfl rfl rfl rfl) rfl rfl ?_
 refine lo rfl (pr_pick_t rfl rfl rfl) rfl rfl ?_
 refine la rfl rfl rfl rfl rfl ?_
 refine L_nil ?_
 refine T_ret ?_
 refine T_slot 12 (.bool (n == n)) (.bool true) rfl (by first | rfl | (simp; done)) ?_
 exact T_fin () (by first | trivial | omega | (simp; done)) (res1 rfl rfl) [] ⟨by decide, rfl⟩ rfl
set_option maxRecDepth 100000 in
set_option maxHeartbeats 4000000 in
theorem letterFrom_ne_f (job : List (BitVec 8)) (fr : BitVec 64) (ot : BitVec 64) (start : BitVec 64) (n : BitVec 64) (vk : BitVec 64) (vf : BitVec 64) (vt : BitVec 64) (vs : BitVec 64) (vj : BitVec 64) (va : BitVec 64) (vr : BitVec 64) (vq : BitVec 64) (w : World) (hO : HOK [] w) (hj : job.length = 32) (hfo : ¬ ot.toNat % 5 = fr.toNat % 5) : Calls Try.prog 7 [(.agg (job.map b8).toArray), (.int .i64 (i64 fr)), (.int .i64 (i64 ot)), (b64 start), (b64 n), (.agg [(.int .i64 (i64 vk)), (.int .i64 (i64 vf)), (.int .i64 (i64 vt)), (b64 vs), (.int .i64 (i64 vj)), (b64 va), (b64 vr), (b64 vq)].toArray)].toArray w (Ret (T := Unit) [] w (fun _ => True) (fun _ => (.bool true)) (fun _ => [])) := by
 have hF : Wid Fence.wide := wid_wide
 refine enter (c := _) Try.func7 rfl [] _ [] (by rw [Try.ntmps7]; rfl) (own_rds hO rfl) ?_
 rw [Try.ntmps7]
 refine T_re [(0, (.agg (job.map b8).toArray)), (1, (.int .i64 (i64 fr))), (2, (.int .i64 (i64 ot))), (3, (b64 start)), (4, (b64 n)), (5, (.agg [(.int .i64 (i64 vk)), (.int .i64 (i64 vf)), (.int .i64 (i64 vt)), (b64 vs), (.int .i64 (i64 vj)), (b64 va), (b64 vr), (b64 vq)].toArray))] (sc rfl (sc rfl (sc rfl (sc rfl (sc rfl (sc rfl sn)))))) ?_
 refine T_he [] [] ⟨by decide, rfl⟩ ?_
 refine Tsr hF rfl ?_
 refine L_op rfl (op_box (zs := (job.map b8)) rfl rfl rfl rfl rfl (fun g1 => ?_))
 refine L_op rfl (op_box (zs := [(.int .i64 (i64 vk)), (.int .i64 (i64 vf)), (.int .i64 (i64 vt)), (b64 vs), (.int .i64 (i64 vj)), (b64 va), (b64 vr), (b64 vq)]) rfl rfl rfl rfl rfl (fun g2 => ?_))
 refine la rfl rfl rfl rfl rfl ?_
 refine L_nil ?_
 refine Tsr hF rfl ?_
 refine lm rfl rfl rfl rfl rfl ?_
 refine lo rfl (pr_cv (zc_i64u fr) Try.underlying3 Try.underlying22 rfl rfl) rfl rfl ?_
 refine lo rfl (pr_rem (a := fr.toNat) (b := 5) sd rfl rfl rfl) rfl rfl ?_
 refine lo rfl (pr_cv (ni_i64 (a := fr.toNat % 5) sd) Try.underlying22 Try.underlying3 rfl rfl) rfl rfl ?_
 obtain ⟨fm, hfm, bfm⟩ := small_bv (fr.toNat % 5) 5 (by omega) (by omega)
 refine T_slot 21 (.int .i64 ((fr.toNat % 5 : Nat) : Int)) (.int .i64 ((fm.toNat : Nat) : Int)) rfl (by rw [hfm]) ?_
 refine lm rfl rfl rfl rfl rfl ?_
 refine lo rfl (pr_cv (zc_i64u ot) Try.underlying3 Try.underlying22 rfl rfl) rfl rfl ?_
 refine lo rfl (pr_rem (a := ot.toNat) (b := 5) sd rfl rfl rfl) rfl rfl ?_
 refine lo rfl (pr_cv (ni_i64 (a := ot.toNat % 5) sd) Try.underlying22 Try.underlying3 rfl rfl) rfl rfl ?_
 obtain ⟨om, hom, bom⟩ := small_bv (ot.toNat % 5) 5 (by omega) (by omega)
 refine T_slot 25 (.int .i64 ((ot.toNat % 5 : Nat) : Int)) (.int .i64 ((om.toNat : Nat) : Int)) rfl (by rw [hom]) ?_
 have hf : ¬ om = fm := fun e => hfo (by rw [hom, e]; exact hfm.symm)
 refine la rfl rfl rfl rfl rfl ?_
 refine la rfl rfl rfl rfl rfl ?_
 refine L_nil ?_
 refine Tsr hF rfl ?_
 refine lo rfl (pr_fa (m := 0) (m' := 0) (z := 0) (by rfl) Try.underlying33 rfl kr rfl rfl) rfl rfl ?_
 refine lq rfl (ld_blk 0 rfl rfl Try.underlying3 rfl rfl rfl) rfl rfl ?_
 refine lo rfl (pr_cv (zc_i64u vk) Try.underlying3 Try.underlying22 rfl rfl) rfl rfl ?_
 refine lo rfl (pr_rem (a := vk.toNat) (b := 5) sd rfl rfl rfl) rfl rfl ?_
 refine lo rfl (pr_cv (ni_i64 (a := vk.toNat % 5) sd) Try.underlying22 Try.underlying3 rfl rfl) rfl rfl ?_
 refine lo rfl (pr_add (na_i64 (a := 1) (b := vk.toNat % 5) sd) rfl rfl rfl) rfl rfl ?_
 obtain ⟨km, hkm, bkm⟩ := small_bv (1 + (vk.toNat % 5)) 6 (by omega) (by omega)
 refine T_slot 31 (.int .i64 ((1 + (vk.toNat % 5) : Nat) : Int)) (.int .i64 ((km.toNat : Nat) : Int)) rfl (by rw [hkm]) ?_
 have hk1 : 1 ≤ km.toNat := by omega
 refine lo rfl (pr_fa (m := 0) (m' := 0) (z := 0) (by rfl) Try.underlying33 rfl kr rfl rfl) rfl rfl ?_
 refine L_op rfl (op_store (vs := [(.int .i64 ((km.toNat : Nat) : Int))]) (cs' := [(.int .i64 ((km.toNat : Nat) : Int)), (.int .i64 (i64 vf)), (.int .i64 (i64 vt)), (b64 vs), (.int .i64 (i64 vj)), (b64 va), (b64 vr), (b64 vq)]) 0 rfl rfl kr (one_one rfl) (by first | decide | simp | exact Nat.le_refl _) rfl rfl rfl rfl rfl ?_)
 refine L_nil ?_
 refine Tsr hF rfl ?_
 refine lm rfl rfl rfl rfl rfl ?_
 refine lo rfl (pr_fa (m := 0) (m' := 4) (z := 0) (by rfl) Try.underlying33 rfl kr rfl rfl) rfl rfl ?_
 refine lq rfl (ld_blk 0 rfl rfl Try.underlying3 rfl rfl rfl) rfl rfl ?_
 refine lo rfl (pr_cv (zc_i64u vj) Try.underlying3 Try.underlying22 rfl rfl) rfl rfl ?_
 refine lo rfl (pr_rem (a := vj.toNat) (b := 100) sd rfl rfl rfl) rfl rfl ?_
 refine lo rfl (pr_cv (ni_i64 (a := vj.toNat % 100) sd) Try.underlying22 Try.underlying3 rfl rfl) rfl rfl ?_
 obtain ⟨tm, htm, btm⟩ := small_bv (vj.toNat % 100) 100 (by omega) (by omega)
 refine T_slot 38 (.int .i64 ((vj.toNat % 100 : Nat) : Int)) (.int .i64 ((tm.toNat : Nat) : Int)) rfl (by rw [htm]) ?_
 refine lo rfl (pr_fa (m := 0) (m' := 1) (z := 0) (by rfl) Try.underlying33 rfl kr rfl rfl) rfl rfl ?_
 refine L_op rfl (op_store (vs := [(.int .i64 ((om.toNat : Nat) : Int))]) (cs' := [(.int .i64 ((km.toNat : Nat) : Int)), (.int .i64 ((om.toNat : Nat) : Int)), (.int .i64 (i64 vt)), (b64 vs), (.int .i64 (i64 vj)), (b64 va), (b64 vr), (b64 vq)]) 0 rfl rfl kr (one_one rfl) (by first | decide | simp | exact Nat.le_refl _) rfl rfl rfl rfl rfl ?_)
 refine lo rfl (pr_fa (m := 0) (m' := 2) (z := 0) (by rfl) Try.underlying33 rfl kr rfl rfl) rfl rfl ?_
 refine L_op rfl (op_store (vs := [(.int .i64 ((0 : Nat) : Int))]) (cs' := [(.int .i64 ((km.toNat : Nat) : Int)), (.int .i64 ((om.toNat : Nat) : Int)), (.int .i64 ((0 : Nat) : Int)), (b64 vs), (.int .i64 (i64 vj)), (b64 va), (b64 vr), (b64 vq)]) 0 rfl rfl kr (one_one rfl) (by first | decide | simp | exact Nat.le_refl _) rfl rfl rfl rfl rfl ?_)
 refine lo rfl (pr_fa (m := 0) (m' := 4) (z := 0) (by rfl) Try.underlying33 rfl kr rfl rfl) rfl rfl ?_
 refine L_op rfl (op_store (vs := [(.int .i64 ((tm.toNat : Nat) : Int))]) (cs' := [(.int .i64 ((km.toNat : Nat) : Int)), (.int .i64 ((om.toNat : Nat) : Int)), (.int .i64 ((0 : Nat) : Int)), (b64 vs), (.int .i64 ((tm.toNat : Nat) : Int)), (b64 va), (b64 vr), (b64 vq)]) 0 rfl rfl kr (one_one rfl) (by first | decide | simp | exact Nat.le_refl _) rfl rfl rfl rfl rfl ?_)
 refine L_nil ?_
 refine Tsr hF rfl ?_
 refine lq rfl (ld_agg (ds := (job.map b8)) 1 rfl agg_all Try.underlying50 rfl (fwz (n := 32) kr sd) rfl rfl) rfl rfl ?_
 refine lm rfl rfl rfl rfl rfl ?_
 refine T_slot 44 (.int .i64 ((fm.toNat : Nat) : Int)) (.int .i64 (i64 fm)) rfl (by rw [i64_nat _ (by omega)]) ?_
 refine lm rfl rfl rfl rfl rfl ?_
 refine lm rfl rfl rfl rfl rfl ?_
 refine lq rfl (ld_agg (ds := [(.int .i64 ((km.toNat : Nat) : Int)), (.int .i64 ((om.toNat : Nat) : Int)), (.int .i64 ((0 : Nat) : Int)), (b64 vs), (.int .i64 ((tm.toNat : Nat) : Int)), (b64 va), (b64 vr), (b64 vq)]) 0 rfl agg_all Try.underlying33 rfl kr rfl rfl) rfl rfl ?_
 refine L_op rfl (op_cn (fun w hw => lseal_f job fm start n ((km.toNat : Nat) : Int) ((om.toNat : Nat) : Int) ((0 : Nat) : Int) vs ((tm.toNat : Nat) : Int) va vr vq w (hok_nil w) (by first | assumption | exact sd)) (enters_of Try.func27 kr rfl) rfl rfl rfl rfl rfl (fun t3 q4 => ?_))
 obtain ⟨B5, d6⟩ := t3
 refine lm rfl rfl rfl rfl rfl ?_
 refine lo rfl (pr_ext (vs := [(.slice B5 104 d6), (.int .i64 ((0 : Nat) : Int))]) rfl rfl rfl) rfl rfl ?_
 refine T_as 0 _ (.row (.slice B5 104 d6) 5 1 104 ((lsealed job fm start n (eights [km, om, 0#64, vs, tm, va, vr, vq])).map b8)) rfl (by rw [ofInt_nat km, ofInt_nat om, ofInt_nat tm]; rfl) ?_
 refine T_old 0 rfl ?_
 refine T_tord 0 rfl ?_
 refine lo rfl (pr_ext (vs := [(.slice B5 104 d6), (.int .i64 ((0 : Nat) : Int))]) rfl rfl rfl) rfl rfl ?_
 refine la rfl rfl rfl rfl rfl ?_
 refine la rfl rfl rfl rfl rfl ?_
 refine L_nil ?_
 refine Tsr hF rfl ?_
 refine lq rfl (ld_agg (ds := (job.map b8)) 2 rfl agg_all Try.underlying50 rfl (fwz (n := 32) kr sd) rfl rfl) rfl rfl ?_
 refine lm rfl rfl rfl rfl rfl ?_
 refine L_op rfl (op_cn (fun w hw => lopen_ne_f job B5 d6 fm start n km om (0#64) vs tm va vr vq w (hok_cons ((src_rd 0 rfl) w hw) (hok_nil w)) (by first | assumption | exact sd) (good_bad hk1 bkm bom btm) hf) (enters_of Try.func30 kr rfl) rfl rfl rfl rfl rfl (fun t7 q8 => ?_))
 refine lm rfl rfl rfl rfl rfl ?_
 refine lo rfl (pr_ext (vs := [(.agg [(.int .i64 ((0 : Nat) : Int)), (.int .i64 ((0 : Nat) : Int)), (.int .i64 ((0 : Nat) : Int)), (b64 (0#64)), (.int .i64 ((0 : Nat) : Int)), (b64 (0#64)), (b64 (0#64)), (b64 (0#64))].toArray), (b64 (0#64)), (.int .i64 ((4 : Nat) : Int))]) rfl rfl rfl) rfl rfl ?_
 refine lo rfl (pr_ext (vs := [(.agg [(.int .i64 ((0 : Nat) : Int)), (.int .i64 ((0 : Nat) : Int)), (.int .i64 ((0 : Nat) : Int)), (b64 (0#64)), (.int .i64 ((0 : Nat) : Int)), (b64 (0#64)), (b64 (0#64)), (b64 (0#64))].toArray), (b64 (0#64)), (.int .i64 ((4 : Nat) : Int))]) rfl rfl rfl) rfl rfl ?_
 refine lo rfl (pr_ext (vs := [(.agg [(.int .i64 ((0 : Nat) : Int)), (.int .i64 ((0 : Nat) : Int)), (.int .i64 ((0 : Nat) : Int)), (b64 (0#64)), (.int .i64 ((0 : Nat) : Int)), (b64 (0#64)), (b64 (0#64)), (b64 (0#64))].toArray), (b64 (0#64)), (.int .i64 ((4 : Nat) : Int))]) rfl rfl rfl) rfl rfl ?_
 refine L_op rfl (op_alloc (z := .agg [(.int .i64 ((0 : Nat) : Int)), (.int .i64 ((0 : Nat) : Int)), (.int .i64 ((0 : Nat) : Int)), (b64 (0#64)), (.int .i64 ((0 : Nat) : Int)), (b64 (0#64)), (b64 (0#64)), (b64 (0#64))].toArray) (zs := [(.int .i64 ((0 : Nat) : Int)), (.int .i64 ((0 : Nat) : Int)), (.int .i64 ((0 : Nat) : Int)), (b64 (0#64)), (.int .i64 ((0 : Nat) : Int)), (b64 (0#64)), (b64 (0#64)), (b64 (0#64))]) kr rfl rfl rfl rfl (fun g9 => ?_))
 refine L_op rfl (op_sto (n := 8) (vs := [(.int .i64 ((0 : Nat) : Int)), (.int .i64 ((0 : Nat) : Int)), (.int .i64 ((0 : Nat) : Int)), (b64 (0#64)), (.int .i64 ((0 : Nat) : Int)), (b64 (0#64)), (b64 (0#64)), (b64 (0#64))]) 0 rfl rfl kr (by simp [Value.oneCell']) kr kr rfl rfl rfl rfl ?_)
 refine la rfl rfl rfl rfl rfl ?_
 refine la rfl rfl rfl rfl rfl ?_
 refine L_nil ?_
 refine T_seq ?_
 refine Tsr hF rfl ?_
 refine lm rfl rfl rfl rfl rfl ?_
 refine lm rfl rfl rfl rfl rfl ?_
 refine lo rfl (pr_cmp (bo := .neq) (nc_ne (a := fm.toNat) (b := om.toNat)) rfl rfl rfl rfl) rfl rfl ?_
 refine L_nil ?_
 refine T_cond_yes (t := (fm.toNat != om.toNat)) rfl (by simp; exact fun e => hf (BitVec.eq_of_toNat_eq e).symm) ?_
 refine Tsr hF rfl ?_
 refine L_op rfl (op_cn (fun w hw => awake21_f  w (hok_nil w) ) (enters_of Try.func11 kr rfl) rfl rfl rfl rfl rfl (fun t10 q11 => ?_))
 refine lm rfl rfl rfl rfl rfl ?_
 refine lm rfl rfl rfl rfl rfl ?_
 refine lo rfl (pr_cmp (bo := .eql) (nc_eq (a := 0) (b := 0)) rfl rfl rfl rfl) rfl rfl ?_
 refine lo rfl (pr_pick_t rfl rfl rfl) rfl rfl ?_
 refine lm rfl rfl rfl rfl rfl ?_
 refine lm rfl rfl rfl rfl rfl ?_
 refine lo rfl (pr_cmp (bo := .eql) (nc_eq (a := 4) (b := 4)) rfl rfl rfl rfl) rfl rfl ?_
 refine lo rfl (pr_pick_t rfl rfl rfl) rfl rfl ?_
 refine lm rfl rfl rfl rfl rfl ?_
 refine lq rfl (ld_agg (ds := [(.int .i64 ((0 : Nat) : Int)), (.int .i64 ((0 : Nat) : Int)), (.int .i64 ((0 : Nat) : Int)), (b64 (0#64)), (.int .i64 ((0 : Nat) : Int)), (b64 (0#64)), (b64 (0#64)), (b64 (0#64))]) 0 rfl agg_all Try.underlying33 rfl kr rfl rfl) rfl rfl ?_
 refine lo rfl (pr_build (qs := []) (v := .agg [(.int .i64 ((0 : Nat) : Int)), (.int .i64 ((0 : Nat) : Int)), (.int .i64 ((0 : Nat) : Int)), (b64 (0#64)), (.int .i64 ((0 : Nat) : Int)), (b64 (0#64)), (b64 (0#64)), (b64 (0#64))].toArray) (fun _ => by kernel_rfl) rfl rfl) rfl rfl ?_
 refine lo rfl (pr_eqs (bo := .eql) (c := true) (r := true) (fun _ _ => eqs Try.underlying33 kr (eqt rfl (part1 Try.underlying3 rfl rfl) (part1 Try.underlying3 rfl rfl) (eqv_si Try.underlying3) (eqt rfl (part1 Try.underlying3 rfl rfl) (part1 Try.underlying3 rfl rfl) (eqv_si Try.underlying3) (eqt rfl (part1 Try.underlying3 rfl rfl) (part1 Try.underlying3 rfl rfl) (eqv_si Try.underlying3) (eqt rfl (part1 Try.underlying30 rfl rfl) (part1 Try.underlying30 rfl rfl) (eqv_si Try.underlying30) (eqt rfl (part1 Try.underlying3 rfl rfl) (part1 Try.underlying3 rfl rfl) (eqv_si Try.underlying3) (eqt rfl (part1 Try.underlying30 rfl rfl) (part1 Try.underlying30 rfl rfl) (eqv_si Try.underlying30) (eqt rfl (partA (n := 2) (zs := [(b64 (0#64)), (b64 (0#64))]) Try.underlying31 rfl kr rfl) (partA (n := 2) (zs := [(b64 (0#64)), (b64 (0#64))]) Try.underlying31 rfl kr rfl) (eqv_sa2 Try.underlying31 Try.underlying30 kr) eqf_nil)))))))) kr rfl rfl rfl rfl rfl) rfl rfl ?_
 refine lo rfl (pr_pick_t rfl rfl rfl) rfl rfl ?_
 refine lm rfl rfl rfl rfl rfl ?_
 refine lm rfl rfl rfl rfl rfl ?_
 refine lo rfl (pr_cmp (bo := .eql) (n64_beq (0#64) (0#64)) rfl rfl rfl rfl) rfl rfl ?_
 refine lo rfl (pr_pick_t rfl rfl rfl) rfl rfl ?_
 refine la rfl rfl rfl rfl rfl ?_
 refine L_nil ?_
 refine T_ret ?_
 refine T_slot 12 (.bool (0#64 == 0#64)) (.bool true) rfl (by first | rfl | (simp; done)) ?_
 exact T_fin () (by first | trivial | omega | (simp; done)) (res1 rfl rfl) [] ⟨by decide, rfl⟩ rfl
theorem letterFrom_f (job : List (BitVec 8)) (fr : BitVec 64) (ot : BitVec 64) (start : BitVec 64) (n : BitVec 64) (vk : BitVec 64) (vf : BitVec 64) (vt : BitVec 64) (vs : BitVec 64) (vj : BitVec 64) (va : BitVec 64) (vr : BitVec 64) (vq : BitVec 64) (w : World) (hO : HOK [] w) (hj : job.length = 32) : Calls Try.prog 7 [(.agg (job.map b8).toArray), (.int .i64 (i64 fr)), (.int .i64 (i64 ot)), (b64 start), (b64 n), (.agg [(.int .i64 (i64 vk)), (.int .i64 (i64 vf)), (.int .i64 (i64 vt)), (b64 vs), (.int .i64 (i64 vj)), (b64 va), (b64 vr), (b64 vq)].toArray)].toArray w (Ret (T := Unit) [] w (fun _ => True) (fun _ => (.bool true)) (fun _ => [])) := by
  by_cases h : ot.toNat % 5 = fr.toNat % 5
  · exact letterFrom_eq_f job fr ot start n vk vf vt vs vj va vr vq w hO hj h
  · exact letterFrom_ne_f job fr ot start n vk vf vt vs vj va vr vq w hO hj h

end Go.Proofs.Ytlplpmkdebemnaa
namespace Go.Proofs.Ytlplpmkdebemnaa.letterFrom
open Fw Go.ChangeShapes Go.WideShapes Go.ChangeAt Go.RowKit Bv
open Go.ChangeMaps (open_string shut_string)
set_option linter.unusedVariables false
theorem own : ownKnob Try.prog.godebug = none := by kernel_rfl
theorem laidOut : laidOutB Try.prog = true := by kernel_rfl
set_option maxRecDepth 100000 in
theorem lifted (os : Os) (started : os.Started) (H : Type) (enc : TypeId × Value → H) :
    ReturnsInHanded {} Try.checked os 7 .any (Rows.letterFromSpec.pre6 enc Try.prog Try.f7 Rows.letterFromRow.domain false) (Rows.letterFromSpec.post enc Try.prog Try.f7 false true false false) := by
  refine returnsInHanded_of_change (C := Try.checked) own started (by kernel_rfl) Try.func7
    (ChangeSpec.witness6 (enc := enc) (C := Try.checked) false ⟨#[], #[.agg (Array.replicate 32 (.int .u8 0)), .int .i64 0, .int .i64 0, .int .u64 0, .int .u64 0, .agg #[.int .i64 0, .int .i64 0, .int .i64 0, .int .u64 0, .int .i64 0, .int .u64 0, .int .u64 0, .int .u64 0]], []⟩ 8 (by kernel_rfl) (by kernel_rfl) (by kernel_rfl) (by kernel_rfl)) ?_
  intro W base args ds gs before hval0 hW hcnd _
  have hval : ∀ (j : Nat) t v, Try.f7.params[j]? = some t → args[j]? = some v → Value.okWide Try.prog W .any base t v := hval0
  have hW' := hW
  obtain ⟨p, q, hA0, hV, rfl, hfz, hnd⟩ := hW
  have hA : DataW.TrodAll enc Try.prog W 0 (fun _ => true) true Try.f7.params.toList args.toList ds p := hA0
  rw [Try.params7] at hA hval
  obtain ⟨v0, vs0, d0, ds0, p0, q0, hargs, rfl, rfl, h0, r0⟩ := trodAll_cons hA
  obtain ⟨v1, vs1, d1, ds1, p1, q1, rfl, rfl, rfl, h1, r1⟩ := trodAll_cons r0
  obtain ⟨v2, vs2, d2, ds2, p2, q2, rfl, rfl, rfl, h2, r2⟩ := trodAll_cons r1
  obtain ⟨v3, vs3, d3, ds3, p3, q3, rfl, rfl, rfl, h3, r3⟩ := trodAll_cons r2
  obtain ⟨v4, vs4, d4, ds4, p4, q4, rfl, rfl, rfl, h4, r4⟩ := trodAll_cons r3
  obtain ⟨v5, vs5, d5, ds5, p5, q5, rfl, rfl, rfl, h5, r5⟩ := trodAll_cons r4
  obtain ⟨rfl, rfl, rfl⟩ := trodAll_nil r5
  obtain rfl : args = #[v0, v1, v2, v3, v4, v5] := by cases args; simp_all
  obtain ⟨rfl, rfl⟩ := trodVars_none hV
  have k0 := h0
  have lt0 : ∀ x ∈ p0, x.block < W.heap.size := by obtain ⟨m, hm⟩ := k0; exact DataW.trod_lt m _ _ _ hm
  obtain ⟨fu0, hf0⟩ := h0
  obtain ⟨x0, hx0, rfl⟩ := open_arr (n := 32) n8 all8 Try.underlying50 Try.underlying5 (by kernel_rfl) (by kernel_rfl) (hval 0 50 v0 rfl rfl) hf0
  obtain ⟨a1, rfl, rfl, rfl, w1⟩ := open_int Try.underlying3 (hval 1 3 v1 rfl rfl) h1
  obtain ⟨x1, rfl⟩ := exi64 w1
  obtain ⟨a2, rfl, rfl, rfl, w2⟩ := open_int Try.underlying3 (hval 2 3 v2 rfl rfl) h2
  obtain ⟨x2, rfl⟩ := exi64 w2
  obtain ⟨a3, rfl, rfl, rfl, w3⟩ := open_int Try.underlying30 (hval 3 30 v3 rfl rfl) h3
  obtain ⟨x3, rfl⟩ := ex64 w3
  obtain ⟨a4, rfl, rfl, rfl, w4⟩ := open_int Try.underlying30 (hval 4 30 v4 rfl rfl) h4
  obtain ⟨x4, rfl⟩ := ex64 w4
  have k5 := h5
  have lt5 : ∀ x ∈ p5, x.block < W.heap.size := by obtain ⟨m, hm⟩ := k5; exact DataW.trod_lt m _ _ _ hm
  obtain ⟨fu5, hf5⟩ := h5
  obtain ⟨cs5, rfl, hl5, hs5⟩ := open_struct Try.underlying33 (hval 5 33 v5 rfl rfl) hf5
  have hl5 := hl5.trans (show _ = 8 by kernel_rfl)
  obtain ⟨c5_0, r5_0, rfl, hl5_0⟩ := cons_of hl5
  obtain ⟨c5_1, r5_1, rfl, hl5_1⟩ := cons_of hl5_0
  obtain ⟨c5_2, r5_2, rfl, hl5_2⟩ := cons_of hl5_1
  obtain ⟨c5_3, r5_3, rfl, hl5_3⟩ := cons_of hl5_2
  obtain ⟨c5_4, r5_4, rfl, hl5_4⟩ := cons_of hl5_3
  obtain ⟨c5_5, r5_5, rfl, hl5_5⟩ := cons_of hl5_4
  obtain ⟨c5_6, r5_6, rfl, hl5_6⟩ := cons_of hl5_5
  obtain ⟨c5_7, r5_7, rfl, hl5_7⟩ := cons_of hl5_6
  obtain rfl := List.length_eq_zero_iff.1 hl5_7
  obtain ⟨z5_0, rfl, w5_0⟩ := field_int hs5 0 rfl Try.underlying3 (by kernel_rfl) rfl
  obtain ⟨x5_0, rfl⟩ := exi64 w5_0
  obtain ⟨z5_1, rfl, w5_1⟩ := field_int hs5 1 rfl Try.underlying3 (by kernel_rfl) rfl
  obtain ⟨x5_1, rfl⟩ := exi64 w5_1
  obtain ⟨z5_2, rfl, w5_2⟩ := field_int hs5 2 rfl Try.underlying3 (by kernel_rfl) rfl
  obtain ⟨x5_2, rfl⟩ := exi64 w5_2
  obtain ⟨z5_3, rfl, w5_3⟩ := field_int hs5 3 rfl Try.underlying30 (by kernel_rfl) rfl
  obtain ⟨x5_3, rfl⟩ := ex64 w5_3
  obtain ⟨z5_4, rfl, w5_4⟩ := field_int hs5 4 rfl Try.underlying3 (by kernel_rfl) rfl
  obtain ⟨x5_4, rfl⟩ := exi64 w5_4
  obtain ⟨z5_5, rfl, w5_5⟩ := field_int hs5 5 rfl Try.underlying30 (by kernel_rfl) rfl
  obtain ⟨x5_5, rfl⟩ := ex64 w5_5
  obtain ⟨z5_6, rfl, w5_6⟩ := field_arr hs5 6 0 rfl (by decide) Try.underlying31 Try.underlying30 (by kernel_rfl) (by kernel_rfl) rfl
  obtain ⟨x5_6, rfl⟩ := ex64 w5_6
  obtain ⟨z5_7, rfl, w5_7⟩ := field_arr hs5 6 1 rfl (by decide) Try.underlying31 Try.underlying30 (by kernel_rfl) (by kernel_rfl) rfl
  obtain ⟨x5_7, rfl⟩ := ex64 w5_7
  clear hs5 hf5
  clear hA0 hval0
  have fin := letterFrom_f x0 x1 x2 x3 x4 x5_0 x5_1 x5_2 x5_3 x5_4 x5_5 x5_6 x5_7 W (hok_nil W) hx0
  refine (law_of_ret fin).mono fun e W' ⟨he, bel⟩ => ?_
  subst he
  exact ⟨_, rfl, _, _, _, [], _, [], hW', trodAll_mk1 (shut_bool Try.underlying4 _), (trodAll_cons_mk (Below.trod laidOut (by kernel_rfl) (of_decide_eq_true (by kernel_rfl)) k0 bel lt0) (trodAll_cons_mk (shut_int Try.underlying3 w1) (trodAll_cons_mk (shut_int Try.underlying3 w2) (trodAll_cons_mk (shut_int Try.underlying30 w3) (trodAll_cons_mk (shut_int Try.underlying30 w4) (trodAll_cons_mk (Below.trod laidOut (by kernel_rfl) (of_decide_eq_true (by kernel_rfl)) k5 bel lt5) trodAll_mk0)))))), rfl, bel.frame _, fun h => by cases h⟩
theorem over : Rows.letterFromRow.holds Try.pinned (OpenSpec.ofChange Rows.letterFromSpec) :=
  OpenClaim.holds_of_wide 7 Try.f7 rfl rfl rfl rfl rfl rfl rfl ⟨rfl, rfl, rfl, rfl, rfl⟩ rfl rfl rfl rfl rfl (by kernel_rfl) Try.func7 (by kernel_rfl)
    (of_decide_eq_true (by kernel_rfl)) (by unfold Func.isWrapper; first | (rw [if_pos (by decide +kernel)]; kernel_rfl) | (rw [if_neg (by decide +kernel)]; exact ⟨rfl, rfl⟩))
    (fun os started H enc _ => lifted os started H enc)
theorem proved : Rows.LetterFromSaid := over
#print axioms proved
end Go.Proofs.Ytlplpmkdebemnaa.letterFrom
