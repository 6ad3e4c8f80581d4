/- Proved: 'domino/dominolaw10.BlockSeals' returns true whatever comes in, and its arguments read behind the call as they read before it. No conditions. -/
import Derived.Test.YtlplpmkdebemnaaGreatYBlockSeals9
import Derived.Test.YtlplpmkdebemnaaGreatProg
import Derived.Test.YtlplpmkdebemnaaGreatRows
import Derived.WalkKit
import Derived.ProofKit
import Derived.OpenShut
import Derived.ShutString
import Derived.ChangeOld
import Derived.Below
set_option linter.unusedVariables false
set_option linter.unusedSimpArgs false
set_option linter.unnecessarySimpa false
namespace Go.Proofs.YtlplpmkdebemnaaGreat
set_option maxRecDepth 100000
open Go.RowKit Bv Fw
noncomputable def aoe (key nonce aad cs : List (BitVec 8)) : Nat := open Classical in if cs.length < 16 then 3 else if agood key nonce aad cs then 0 else 6
noncomputable def aol (key nonce aad cs : List (BitVec 8)) : Nat := if aoe key nonce aad cs = 0 then cs.length - 16 else 0
noncomputable def aob (key nonce aad cs : List (BitVec 8)) : List (BitVec 8) := if aoe key nonce aad cs = 0 then aplain key nonce cs else []
theorem aoe_short {key nonce aad cs : List (BitVec 8)} {n : Nat} (h : cs.length = n) (h2 : n < 16) : aoe key nonce aad cs = 3 := by unfold aoe; rw [if_pos oM]
theorem aoe_bad {key nonce aad cs : List (BitVec 8)} {n : Nat} (h : cs.length = n) (h2 : ¬ n < 16) (hg : ¬ agood key nonce aad cs) : aoe key nonce aad cs = 6 := by unfold aoe; rw [if_neg oM, if_neg hg]
theorem aoe_good {key nonce aad cs : List (BitVec 8)} {n : Nat} (h : cs.length = n) (h2 : ¬ n < 16) (hg : agood key nonce aad cs) : aoe key nonce aad cs = 0 := by unfold aoe; rw [if_neg oM, if_pos hg]
theorem aol_no {key nonce aad cs : List (BitVec 8)} (h : ¬ aoe key nonce aad cs = 0) : aol key nonce aad cs = 0 := by unfold aol; rw [if_neg h]
theorem aob_no {key nonce aad cs : List (BitVec 8)} (h : ¬ aoe key nonce aad cs = 0) : aob key nonce aad cs = [] := by unfold aob; rw [if_neg h]
theorem aol_ok {key nonce aad cs : List (BitVec 8)} {n : Nat} (hn : cs.length = n) (h : aoe key nonce aad cs = 0) : aol key nonce aad cs = n - 16 := by unfold aol; rw [if_pos h, hn]
theorem aob_ok {key nonce aad cs : List (BitVec 8)} (h : aoe key nonce aad cs = 0) : aob key nonce aad cs = aplain key nonce cs := by unfold aob; rw [if_pos h]
attribute [irreducible] aoe aol aob
theorem ret_nil {P : Program} {f : FuncId} {args : Array Value} {w : World} {v : Value} {res : Option Addr × Nat → Value} {hs : Option Addr × Nat → List HA} (e : TypeId) (z : Nat) (h : Calls P f args w (Ret (T := Unit) [] w (fun _ => True) (fun _ => v) (fun _ => []))) (hr : res (none, 0) = v) (hh : hs (none, 0) = [.row (.slice none 0 0) e z 0 []]) : Calls P f args w (Ret (T := Option Addr × Nat) [] w (fun _ => True) res hs) :=
  h.mono fun _ w' ⟨_, _, he, hp⟩ => ⟨(none, 0), trivial, by rw [he, hr], by
    rw [hh]
    refine ⟨hp.kp, fun x hx => ?_, fun x hx k hk => ?_, by simp [HA.ids, Value.ownBlock], fun x hx r hr => ?_, fun x hx => ?_⟩ <;> rw [List.mem_singleton] at hx <;> subst hx
    · exact World.ownsRow_nil w' 0 e z
    · simp [HA.frs, Value.ownBlock] at hk
    · cases hr
    · exact ⟨rfl, rfl⟩⟩
def bsl (n : Nat) (z : Int) : Nat := if bpe n z = 0 then 32 * z.toNat + 16 else 0
def bsb (job : List (BitVec 8)) (pp pr pa pt pi : BitVec 64) (xs : List Rc) (z : Int) : List (BitVec 8) := if bpe xs.length z = 0 then aseal (pkey job pp pr pa) (nonc pt pi) (paad pp pr pa pt pi z.toNat) (bpb xs z) else []
theorem bpe_zero {n : Nat} {z : Int} (h : bpe n z = 0) : ∃ q : Nat, z = (q : Int) ∧ 1 ≤ q ∧ q ≤ 8 ∧ n ≤ q := by
  unfold bpe at h
  split at h
  · cases h
  · split at h
    · cases h
    · exact ⟨z.toNat, by omega, by omega, by omega, by omega⟩
theorem bsl_no {n : Nat} {z : Int} (h : ¬ bpe n z = 0) : bsl n z = 0 := by unfold bsl; rw [if_neg h]
theorem bsl_ok {n q : Nat} {z : Int} (h : bpe n z = 0) (hq : z = (q : Int)) : bsl n z = 32 * q + 16 := by subst hq; unfold bsl; rw [if_pos h]; rfl
theorem bsb_no {job : List (BitVec 8)} {pp pr pa pt pi : BitVec 64} {xs : List Rc} {n : Nat} {z : Int} (hx : xs.length = n) (h : ¬ bpe n z = 0) : bsb job pp pr pa pt pi xs z = [] := by subst hx; unfold bsb; rw [if_neg h]
theorem bsb_ok {job : List (BitVec 8)} {pp pr pa pt pi : BitVec 64} {xs : List Rc} {n q : Nat} {z : Int} (hx : xs.length = n) (h : bpe n z = 0) (hq : z = (q : Int)) : bsb job pp pr pa pt pi xs z = aseal (pkey job pp pr pa) (nonc pt pi) (paad pp pr pa pt pi q) (bpb xs z) := by subst hx hq; unfold bsb; rw [if_pos h]; rfl
attribute [irreducible] bsl bsb
noncomputable def boe (job : List (BitVec 8)) (pp pr pa pt pi : BitVec 64) (z : Int) (b : List (BitVec 8)) : Nat := if mayb z = false then 1 else if aoe (pkey job pp pr pa) (nonc pt pi) (paad pp pr pa pt pi z.toNat) b = 0 then bte (aplain (pkey job pp pr pa) (nonc pt pi) b) z else aoe (pkey job pp pr pa) (nonc pt pi) (paad pp pr pa pt pi z.toNat) b
noncomputable def bon (job : List (BitVec 8)) (pp pr pa pt pi : BitVec 64) (z : Int) (b : List (BitVec 8)) : Nat := if mayb z = false then 0 else if aoe (pkey job pp pr pa) (nonc pt pi) (paad pp pr pa pt pi z.toNat) b = 0 then btn (aplain (pkey job pp pr pa) (nonc pt pi) b) z else 0
noncomputable def bok (job : List (BitVec 8)) (pp pr pa pt pi : BitVec 64) (z : Int) (b : List (BitVec 8)) : List Rc := if mayb z = false then [] else if aoe (pkey job pp pr pa) (nonc pt pi) (paad pp pr pa pt pi z.toNat) b = 0 then btk (aplain (pkey job pp pr pa) (nonc pt pi) b) z else []
section
variable {job : List (BitVec 8)} {pp pr pa pt pi : BitVec 64} {z : Int} {b : List (BitVec 8)} {q : Nat}
theorem bo_arg (h : (!mayb z) = true) : boe job pp pr pa pt pi z b = 1 ∧ bon job pp pr pa pt pi z b = 0 ∧ bok job pp pr pa pt pi z b = [] := by
  have h2 : mayb z = false := by simpa using h
  unfold boe bon bok; rw [if_pos h2, if_pos h2, if_pos h2]; exact ⟨rfl, rfl, rfl⟩
theorem bo_err (h : (!mayb z) = false) (hq : z = (q : Int)) (ha : ¬ aoe (pkey job pp pr pa) (nonc pt pi) (paad pp pr pa pt pi q) b = 0) : boe job pp pr pa pt pi z b = aoe (pkey job pp pr pa) (nonc pt pi) (paad pp pr pa pt pi q) b ∧ bon job pp pr pa pt pi z b = 0 ∧ bok job pp pr pa pt pi z b = [] := by
  subst hq
  have h2 : ¬ mayb ((q : Nat) : Int) = false := by simpa using h
  have ha' : ¬ aoe (pkey job pp pr pa) (nonc pt pi) (paad pp pr pa pt pi ((q : Nat) : Int).toNat) b = 0 := ha
  unfold boe bon bok; rw [if_neg h2, if_neg h2, if_neg h2, if_neg ha', if_neg ha', if_neg ha']; exact ⟨rfl, rfl, rfl⟩
theorem bo_ok (h : (!mayb z) = false) (hq : z = (q : Int)) (ha : aoe (pkey job pp pr pa) (nonc pt pi) (paad pp pr pa pt pi q) b = 0) : boe job pp pr pa pt pi z b = bte (aplain (pkey job pp pr pa) (nonc pt pi) b) z ∧ bon job pp pr pa pt pi z b = btn (aplain (pkey job pp pr pa) (nonc pt pi) b) z ∧ bok job pp pr pa pt pi z b = btk (aplain (pkey job pp pr pa) (nonc pt pi) b) z := by
  subst hq
  have h2 : ¬ mayb ((q : Nat) : Int) = false := by simpa using h
  have ha' : aoe (pkey job pp pr pa) (nonc pt pi) (paad pp pr pa pt pi ((q : Nat) : Int).toNat) b = 0 := ha
  unfold boe bon bok; rw [if_neg h2, if_neg h2, if_neg h2, if_pos ha', if_pos ha', if_pos ha']; exact ⟨rfl, rfl, rfl⟩
end
theorem bok_len (job : List (BitVec 8)) (pp pr pa pt pi : BitVec 64) (z : Int) (b : List (BitVec 8)) : (bok job pp pr pa pt pi z b).length = bon job pp pr pa pt pi z b := by
  unfold bok bon
  split
  · rfl
  · split
    · exact btk_len _ _
    · rfl
theorem btn_le8 (b : List (BitVec 8)) (z : Int) : btn b z ≤ 8 := by
  unfold btn
  split
  · rename_i h
    unfold bte at h
    split at h
    · cases h
    · omega
  · omega
theorem bon_le (job : List (BitVec 8)) (pp pr pa pt pi : BitVec 64) (z : Int) (b : List (BitVec 8)) : bon job pp pr pa pt pi z b ≤ 8 := by
  unfold bon
  split
  · omega
  · split
    · exact btn_le8 _ _
    · omega
attribute [irreducible] boe bon bok
theorem openA_f (key : List (BitVec 8)) (nonce : List (BitVec 8)) (aad : List (BitVec 8)) (cs : List (BitVec 8)) (A1 : Option Addr) (n1 : Nat) (c1 : Nat) (A2 : Option Addr) (n2 : Nat) (c2 : Nat) (w : World) (hO : HOK [.rd A1 1 n1 c1 (aad.map b8), .rd A2 1 n2 c2 (cs.map b8)] w) (hk : key.length = 32) (hn : nonce.length = 12) (h1 : aad.length = n1) (h2 : cs.length = n2) (h3 : n1 ≤ 65536) (h5 : n2 ≤ 65552) : Calls Tryz.prog 23 [(.agg (key.map b8).toArray), (.agg (nonce.map b8).toArray), (.slice A1 n1 c1), (.slice A2 n2 c2)].toArray w (Ret (T := Option Addr × Nat) [] w (fun _ => True) (fun ⟨B, d⟩ => (.tuple [(.slice B (aol key nonce aad cs) d), (.int .i64 (((aoe key nonce aad cs) : Nat) : Int))].toArray)) (fun ⟨B, d⟩ => [.row (.slice B (aol key nonce aad cs) d) 5 1 (aol key nonce aad cs) ((aob key nonce aad cs).map b8)])) := by
  by_cases h : n2 < 16
  · have e := aoe_short (key := key) (nonce := nonce) (aad := aad) h2 h
    have e0 : ¬ aoe key nonce aad cs = 0 := by omega
    rw [aol_no e0, aob_no e0, e]
    exact ret_nil 5 1 (open_short_f key nonce aad cs A1 n1 c1 A2 n2 c2 w hO hk hn h1 h2 h3 h) rfl rfl
  · by_cases hg : agood key nonce aad cs
    · have e := aoe_good h2 h hg
      rw [aol_ok h2 e, aob_ok e, e]
      exact open_ok_f key nonce aad cs A1 n1 c1 A2 n2 c2 w hO hk hn h1 h2 h3 oM h5 hg
    · have e := aoe_bad h2 h hg
      have e0 : ¬ aoe key nonce aad cs = 0 := by omega
      rw [aol_no e0, aob_no e0, e]
      exact ret_nil 5 1 (open_bad_f key nonce aad cs A1 n1 c1 A2 n2 c2 w hO hk hn h1 h2 h3 oM h5 hg) rfl rfl
theorem ropenA_f (key : List (BitVec 8)) (nonce : List (BitVec 8)) (aad : List (BitVec 8)) (cs : List (BitVec 8)) (A1 : Option Addr) (n1 : Nat) (c1 : Nat) (A2 : Option Addr) (n2 : Nat) (c2 : Nat) (w : World) (hO : HOK [.rd A1 1 n1 c1 (aad.map b8), .rd A2 1 n2 c2 (cs.map b8)] w) (hk : key.length = 32) (hn : nonce.length = 12) (h1 : aad.length = n1) (h2 : cs.length = n2) (h3 : n1 ≤ 65536) (h5 : n2 ≤ 65552) : Calls Tryz.prog 26 [(.agg (key.map b8).toArray), (.agg (nonce.map b8).toArray), (.slice A1 n1 c1), (.slice A2 n2 c2)].toArray w (Ret (T := Option Addr × Nat) [] w (fun _ => True) (fun ⟨B, d⟩ => (.tuple [(.slice B (aol key nonce aad cs) d), (.int .i64 (((aoe key nonce aad cs) : Nat) : Int))].toArray)) (fun ⟨B, d⟩ => [.row (.slice B (aol key nonce aad cs) d) 5 1 (aol key nonce aad cs) ((aob key nonce aad cs).map b8)])) := by
  by_cases h : n2 < 16
  · have e := aoe_short (key := key) (nonce := nonce) (aad := aad) h2 h
    have e0 : ¬ aoe key nonce aad cs = 0 := by omega
    rw [aol_no e0, aob_no e0, e]
    exact ret_nil 5 1 (ropen_short_f key nonce aad cs A1 n1 c1 A2 n2 c2 w hO hk hn h1 h2 h3 h) rfl rfl
  · by_cases hg : agood key nonce aad cs
    · have e := aoe_good h2 h hg
      rw [aol_ok h2 e, aob_ok e, e]
      exact ropen_ok_f key nonce aad cs A1 n1 c1 A2 n2 c2 w hO hk hn h1 h2 h3 oM h5 hg
    · have e := aoe_bad h2 h hg
      have e0 : ¬ aoe key nonce aad cs = 0 := by omega
      rw [aol_no e0, aob_no e0, e]
      exact ret_nil 5 1 (ropen_bad_f key nonce aad cs A1 n1 c1 A2 n2 c2 w hO hk hn h1 h2 h3 oM h5 hg) rfl rfl
set_option maxRecDepth 100000 in
set_option maxHeartbeats 4000000 in
theorem bsealA_f (job : List (BitVec 8)) (pp : BitVec 64) (pr : BitVec 64) (pa : BitVec 64) (pt : BitVec 64) (pi : BitVec 64) (xs : List Rc) (A : Option Addr) (n : Nat) (c : Nat) (z : Int) (w : World) (hO : HOK [.rd A 4 n c (rcs xs)] w) (hj : job.length = 32) (hx : xs.length = n) (hn : n ≤ 1000) : Calls Tryz.prog 6 [(.agg (job.map b8).toArray), (.agg [(.int .i64 (i64 pp)), (.int .i64 (i64 pr)), (.int .i64 (i64 pa)), (b64 pt), (.int .i64 (i64 pi))].toArray), (.slice A n c), (.int .i64 z)].toArray w (Ret (T := Option Addr × Nat) [] w (fun ⟨B, d⟩ => True) (fun ⟨B, d⟩ => (.tuple [(.slice B (bsl n z) d), (.int .i64 (((bpe n z) : Nat) : Int))].toArray)) (fun ⟨B, d⟩ => [.row (.slice B (bsl n z) d) 5 1 (bsl n z) ((bsb job pp pr pa pt pi xs z).map b8)])) := by
 have hpk := pkey_len job pp pr pa
 have hnn := nonc_len pt pi
 have huu : ((pkey job pp pr pa) ++ (nonc pt pi)).length = 44 := by rw [List.length_append, hpk, hnn]
 have haq := fun q => paad_len pp pr pa pt pi q
 have hF : Wid Fence.wide := wid_wide
 refine enter (c := _) Tryz.func6 rfl [] _ [.rd A 4 n c (rcs xs)] (by rw [Tryz.ntmps6]; rfl) (own_rds hO rfl) ?_
 rw [Tryz.ntmps6]
 refine lE [(0, (.agg (job.map b8).toArray)), (1, (.agg [(.int .i64 (i64 pp)), (.int .i64 (i64 pr)), (.int .i64 (i64 pa)), (b64 pt), (.int .i64 (i64 pi))].toArray)), (2, (.slice A n c)), (3, (.int .i64 z))] ?_
 refine lH [0] [.rd A 4 n c (rcs xs)] ?_
 refine lT ?_
 refine L_op rfl (op_box (zs := (job.map b8)) rfl rfl rfl rfl rfl (fun g1 => ?_))
 refine L_op rfl (op_box (zs := [(.int .i64 (i64 pp)), (.int .i64 (i64 pr)), (.int .i64 (i64 pa)), (b64 pt), (.int .i64 (i64 pi))]) rfl rfl rfl rfl rfl (fun g2 => ?_))
 refine lS ?_
 refine lS ?_
 refine lN ?_
 refine lM ?_
 refine lM ?_
 refine L_op rfl (op_cn (fun w hw => bpack_f xs z A n c w (hok_cons ((src_rd 2 rfl) w hw) (hok_nil w)) sd sd) (enters_of Tryz.func13 kr rfl) rfl rfl rfl rfl rfl (fun t3 q4 => ?_))
 obtain ⟨B5, e6⟩ := t3
 refine lM ?_
 refine lO (pr_ext (vs := [(.slice B5 (bpl n z) e6), (.int .i64 (((bpe n z) : Nat) : Int))]) rfl rfl rfl) ?_
 refine lO (pr_ext (vs := [(.slice B5 (bpl n z) e6), (.int .i64 (((bpe n z) : Nat) : Int))]) rfl rfl rfl) ?_
 refine lS ?_
 refine lS ?_
 refine L_nil ?_
 refine T_seq ?_
 refine lT ?_
 refine lM ?_
 refine lO (pr_cmp (bo := .neq) (nc_ne (a := (bpe n z)) (b := 0)) rfl rfl rfl rfl) ?_
 refine L_nil ?_
 refine T_cond ((bpe n z) != 0) rfl (fun hc_7 => ?_) (fun hc_7 => ?_)
 ·have hc_7 : ¬ (bpe n z) = 0 := by simpa using hc_7
  refine lT ?_
  refine lM ?_
  refine lS ?_
  refine lS ?_
  refine L_nil ?_
  refine T_ret ?_
  refine T_slot 8 (.slice none 0 0) (.slice none (bsl n z) 0) rfl (by rw [bsl_no aS]) ?_
  refine T_nilrow 5 1 ?_
  refine T_as 0 _ (.row (.slice none (bsl n z) 0) 5 1 (bsl n z) ((bsb job pp pr pa pt pi xs z).map b8)) rfl (by rw [bsl_no aS, bsb_no hx aS]; rfl) ?_
  exact T_fin (none, 0) qN (res2 rfl rfl rfl) [0] ⟨by decide, rfl⟩ rfl
 have hc_7 : (bpe n z) = 0 := by simpa using hc_7
 obtain ⟨q, hq, hq1, hq8, hnq⟩ := bpe_zero (n := n) (z := z) aS
 have hbl : bpl n z = 32 * q := by rw [hq]; exact bpl_q hq1 hq8 hnq
 have hpl : (bpb xs z).length = 32 * q := (bpb_len hx).trans hbl
 refine T_slot 10 (.slice B5 (bpl n z) e6) (.slice B5 (32 * q) e6) rfl (by rw [hbl]) ?_
 refine T_as 0 _ (.row (.slice B5 (32 * q) e6) 5 1 (32 * q) ((bpb xs z).map b8)) rfl (by rw [hbl]) ?_
 refine T_skip ?_
 refine lT ?_
 refine lQ (ld_agg (ds := (job.map b8)) 2 rfl agg_all Tryz.underlying22 rfl (fwz (n := 32) kr sd) rfl rfl) ?_
 refine lQ (ld_agg (ds := [(.int .i64 (i64 pp)), (.int .i64 (i64 pr)), (.int .i64 (i64 pa)), (b64 pt), (.int .i64 (i64 pi))]) 1 rfl agg_all Tryz.underlying25 rfl kr rfl rfl) ?_
 refine L_op rfl (op_cn (fun w hw => buse_f job pp pr pa pt pi w (hok_nil w) aS) (enters_of Tryz.func14 kr rfl) rfl rfl rfl rfl rfl (fun t8 q9 => ?_))
 refine L_op rfl (op_alloc (z := .agg [(b8 (0#8)), (b8 (0#8)), (b8 (0#8)), (b8 (0#8)), (b8 (0#8)), (b8 (0#8)), (b8 (0#8)), (b8 (0#8)), (b8 (0#8)), (b8 (0#8)), (b8 (0#8)), (b8 (0#8)), (b8 (0#8)), (b8 (0#8)), (b8 (0#8)), (b8 (0#8)), (b8 (0#8)), (b8 (0#8)), (b8 (0#8)), (b8 (0#8)), (b8 (0#8)), (b8 (0#8)), (b8 (0#8)), (b8 (0#8)), (b8 (0#8)), (b8 (0#8)), (b8 (0#8)), (b8 (0#8)), (b8 (0#8)), (b8 (0#8)), (b8 (0#8)), (b8 (0#8)), (b8 (0#8)), (b8 (0#8)), (b8 (0#8)), (b8 (0#8)), (b8 (0#8)), (b8 (0#8)), (b8 (0#8)), (b8 (0#8)), (b8 (0#8)), (b8 (0#8)), (b8 (0#8)), (b8 (0#8))].toArray) (zs := [(b8 (0#8)), (b8 (0#8)), (b8 (0#8)), (b8 (0#8)), (b8 (0#8)), (b8 (0#8)), (b8 (0#8)), (b8 (0#8)), (b8 (0#8)), (b8 (0#8)), (b8 (0#8)), (b8 (0#8)), (b8 (0#8)), (b8 (0#8)), (b8 (0#8)), (b8 (0#8)), (b8 (0#8)), (b8 (0#8)), (b8 (0#8)), (b8 (0#8)), (b8 (0#8)), (b8 (0#8)), (b8 (0#8)), (b8 (0#8)), (b8 (0#8)), (b8 (0#8)), (b8 (0#8)), (b8 (0#8)), (b8 (0#8)), (b8 (0#8)), (b8 (0#8)), (b8 (0#8)), (b8 (0#8)), (b8 (0#8)), (b8 (0#8)), (b8 (0#8)), (b8 (0#8)), (b8 (0#8)), (b8 (0#8)), (b8 (0#8)), (b8 (0#8)), (b8 (0#8)), (b8 (0#8)), (b8 (0#8))]) kr rfl rfl rfl rfl (fun g10 => ?_))
 refine L_op rfl (op_sto (n := 44) (vs := (((pkey job pp pr pa) ++ (nonc pt pi)).map b8)) 0 rfl rfl kr (all8_one _) kr sd rfl rfl rfl rfl ?_)
 refine L_nil ?_
 refine T_seq ?_
 refine T_regD [.blk g10 45 (((pkey job pp pr pa) ++ (nonc pt pi)).map b8), .row (.slice B5 (32 * q) e6) 5 1 (32 * q) ((bpb xs z).map b8), .blk g2 25 [(.int .i64 (i64 pp)), (.int .i64 (i64 pr)), (.int .i64 (i64 pa)), (b64 pt), (.int .i64 (i64 pi))], .blk g1 22 (job.map b8), .rd A 4 n c (rcs xs)] 14 14 #[false, false, false, false, false, false, false, false, false, false, false, false, false, false] hF kr kr ?_
 refine D_pure (i := 0) [0, 1, 2, 3, 4] rfl kr rfl (pr_fa (m := 0) (m' := 0) (z := 31) (by rfl) Tryz.underlying45 rfl kr rfl rfl) (.inr rfl) rfl rfl ?_
 refine D_pure (i := 2) [0, 1, 2, 3, 4] rfl kr rfl (pr_fa (m := 0) (m' := 32) (z := 11) (by rfl) Tryz.underlying45 rfl kr rfl rfl) (.inr rfl) rfl rfl ?_
 refine D_pure (i := 5) [0, 1, 2, 3, 4] rfl kr rfl (pr_move rfl rfl) (.inr rfl) rfl rfl ?_
 refine D_pure (i := 6) [0, 1, 2, 3, 4] rfl kr rfl (pr_len_sl Tryz.underlying27 rfl rfl) (.inr rfl) rfl rfl ?_
 refine D_pure (i := 8) [0, 1, 2, 3, 4] rfl kr rfl (pr_move rfl rfl) (.inr rfl) rfl rfl ?_
 refine D_take (i := 1) [0, 1, 2, 3, 4] rfl kr rfl (ld_agg (ds := ((List.take 32 ((pkey job pp pr pa) ++ (nonc pt pi))).map b8)) 0 rfl (by simp [List.map_take, List.map_drop]) Tryz.underlying22 rfl (fwz (n := 32) kr sd) rfl rfl) rfl rfl rfl ?_
 refine T_slot 26 _ (.agg ((pkey job pp pr pa).map b8).toArray) rfl (by rw [ptake hpk]) ?_
 refine D_take (i := 3) [0, 1, 2, 3, 4] rfl kr rfl (ld_agg (ds := ((List.take 12 (List.drop 32 ((pkey job pp pr pa) ++ (nonc pt pi)))).map b8)) 0 rfl (by simp [List.map_take, List.map_drop]) Tryz.underlying43 rfl (fwz (n := 12) kr sd) rfl rfl) rfl rfl rfl ?_
 refine T_slot 28 _ (.agg ((nonc pt pi).map b8).toArray) rfl (by rw [pdrop hpk hnn]) ?_
 refine D_take (i := 4) [0, 1, 2, 3, 4] rfl kr rfl (ld_agg (ds := [(.int .i64 (i64 pp)), (.int .i64 (i64 pr)), (.int .i64 (i64 pa)), (b64 pt), (.int .i64 (i64 pi))]) 2 rfl agg_all Tryz.underlying25 rfl kr rfl rfl) rfl rfl rfl ?_
 refine D_one 7 _ rfl kr rfl (op_cn (fun w hw => kaad_f pp pr pa pt pi (32 * q) w (hok_nil w) sd) (enters_of Tryz.func16 kr rfl) rfl rfl rfl rfl rfl (fun t11 q12 => ?_))
 obtain ⟨B13, d14⟩ := t11
 have haa := haq q
 refine T_as 0 _ (.old B13 1 48 d14 ((paad pp pr pa pt pi q).map b8)) rfl (by rw [paad_def]) ?_
 refine D_on [1, 2, 3, 4, 5] rfl ?_
 refine D_one 9 _ rfl kr rfl (op_cn (fun w hw => seal_f (pkey job pp pr pa) (nonc pt pi) (paad pp pr pa pt pi q) (bpb xs z) B13 48 d14 B5 (32 * q) e6 w (hok_cons ((src_old 0 rfl) w hw) (hok_cons ((src_row 2 rfl) w hw) (hok_nil w))) aS aS aS hpl sd sd) (enters_of Tryz.func15 kr rfl) rfl rfl rfl rfl rfl (fun t15 q16 => ?_))
 obtain ⟨B17, d18⟩ := t15
 refine D_on [2, 3, 4, 5, 6] rfl ?_
 refine D_pure (i := 10) [2, 3, 4, 5, 6] rfl kr rfl (pr_ext (vs := [(.slice B17 ((32 * q) + 16) d18), (.int .i64 ((0 : Nat) : Int))]) rfl rfl rfl) (.inr rfl) rfl rfl ?_
 refine D_pure (i := 11) [2, 3, 4, 5, 6] rfl kr rfl (pr_ext (vs := [(.slice B17 ((32 * q) + 16) d18), (.int .i64 ((0 : Nat) : Int))]) rfl rfl rfl) (.inr rfl) rfl rfl ?_
 refine D_pure (i := 12) [2, 3, 4, 5, 6] rfl kr rfl (pr_assign rfl rfl) (.inr rfl) rfl rfl ?_
 refine D_pure (i := 13) [2, 3, 4, 5, 6] rfl kr rfl (pr_assign rfl rfl) (.inr rfl) rfl rfl ?_
 refine D_done kr ?_
 refine T_ret ?_
 refine T_slot 8 (.slice B17 ((32 * q) + 16) d18) (.slice B17 (bsl n z) d18) rfl (by rw [bsl_ok aS hq]) ?_
 refine T_slot 9 (.int .i64 ((0 : Nat) : Int)) (.int .i64 (((bpe n z) : Nat) : Int)) rfl (by congr 1; congr 1; omega) ?_
 refine T_as 0 _ (.row (.slice B17 (bsl n z) d18) 5 1 (bsl n z) ((bsb job pp pr pa pt pi xs z).map b8)) rfl (by rw [bsl_ok aS hq, bsb_ok hx aS hq]) ?_
 exact T_fin (B17, d18) qN (res2 rfl rfl rfl) [0] ⟨by decide, rfl⟩ rfl
set_option maxRecDepth 100000 in
set_option maxHeartbeats 4000000 in
theorem rbsealA_f (job : List (BitVec 8)) (pp : BitVec 64) (pr : BitVec 64) (pa : BitVec 64) (pt : BitVec 64) (pi : BitVec 64) (xs : List Rc) (A : Option Addr) (n : Nat) (c : Nat) (z : Int) (w : World) (hO : HOK [.rd A 4 n c (rcs xs)] w) (hj : job.length = 32) (hx : xs.length = n) (hn : n ≤ 1000) : Calls Tryz.prog 7 [(.agg (job.map b8).toArray), (.agg [(.int .i64 (i64 pp)), (.int .i64 (i64 pr)), (.int .i64 (i64 pa)), (b64 pt), (.int .i64 (i64 pi))].toArray), (.slice A n c), (.int .i64 z)].toArray w (Ret (T := Option Addr × Nat) [] w (fun ⟨B, d⟩ => True) (fun ⟨B, d⟩ => (.tuple [(.slice B (bsl n z) d), (.int .i64 (((bpe n z) : Nat) : Int))].toArray)) (fun ⟨B, d⟩ => [.row (.slice B (bsl n z) d) 5 1 (bsl n z) ((bsb job pp pr pa pt pi xs z).map b8)])) := by
 have hpk := pkey_len job pp pr pa
 have hnn := nonc_len pt pi
 have huu : ((pkey job pp pr pa) ++ (nonc pt pi)).length = 44 := by rw [List.length_append, hpk, hnn]
 have haq := fun q => paad_len pp pr pa pt pi q
 have hF : Wid Fence.wide := wid_wide
 refine enter (c := _) Tryz.func7 rfl [] _ [.rd A 4 n c (rcs xs)] (by rw [Tryz.ntmps7]; rfl) (own_rds hO rfl) ?_
 rw [Tryz.ntmps7]
 refine lE [(0, (.agg (job.map b8).toArray)), (1, (.agg [(.int .i64 (i64 pp)), (.int .i64 (i64 pr)), (.int .i64 (i64 pa)), (b64 pt), (.int .i64 (i64 pi))].toArray)), (2, (.slice A n c)), (3, (.int .i64 z))] ?_
 refine lH [0] [.rd A 4 n c (rcs xs)] ?_
 refine lT ?_
 refine L_op rfl (op_box (zs := (job.map b8)) rfl rfl rfl rfl rfl (fun g1 => ?_))
 refine L_op rfl (op_box (zs := [(.int .i64 (i64 pp)), (.int .i64 (i64 pr)), (.int .i64 (i64 pa)), (b64 pt), (.int .i64 (i64 pi))]) rfl rfl rfl rfl rfl (fun g2 => ?_))
 refine lS ?_
 refine lS ?_
 refine lN ?_
 refine lM ?_
 refine lM ?_
 refine L_op rfl (op_cn (fun w hw => rbpack_f xs z A n c w (hok_cons ((src_rd 2 rfl) w hw) (hok_nil w)) sd sd) (enters_of Tryz.func17 kr rfl) rfl rfl rfl rfl rfl (fun t3 q4 => ?_))
 obtain ⟨B5, e6⟩ := t3
 refine lM ?_
 refine lO (pr_ext (vs := [(.slice B5 (bpl n z) e6), (.int .i64 (((bpe n z) : Nat) : Int))]) rfl rfl rfl) ?_
 refine lO (pr_ext (vs := [(.slice B5 (bpl n z) e6), (.int .i64 (((bpe n z) : Nat) : Int))]) rfl rfl rfl) ?_
 refine lS ?_
 refine lS ?_
 refine L_nil ?_
 refine T_seq ?_
 refine lT ?_
 refine lM ?_
 refine lO (pr_cmp (bo := .neq) (nc_ne (a := (bpe n z)) (b := 0)) rfl rfl rfl rfl) ?_
 refine L_nil ?_
 refine T_cond ((bpe n z) != 0) rfl (fun hc_7 => ?_) (fun hc_7 => ?_)
 ·have hc_7 : ¬ (bpe n z) = 0 := by simpa using hc_7
  refine lT ?_
  refine lM ?_
  refine lS ?_
  refine lS ?_
  refine L_nil ?_
  refine T_ret ?_
  refine T_slot 8 (.slice none 0 0) (.slice none (bsl n z) 0) rfl (by rw [bsl_no aS]) ?_
  refine T_nilrow 5 1 ?_
  refine T_as 0 _ (.row (.slice none (bsl n z) 0) 5 1 (bsl n z) ((bsb job pp pr pa pt pi xs z).map b8)) rfl (by rw [bsl_no aS, bsb_no hx aS]; rfl) ?_
  exact T_fin (none, 0) qN (res2 rfl rfl rfl) [0] ⟨by decide, rfl⟩ rfl
 have hc_7 : (bpe n z) = 0 := by simpa using hc_7
 obtain ⟨q, hq, hq1, hq8, hnq⟩ := bpe_zero (n := n) (z := z) aS
 have hbl : bpl n z = 32 * q := by rw [hq]; exact bpl_q hq1 hq8 hnq
 have hpl : (bpb xs z).length = 32 * q := (bpb_len hx).trans hbl
 refine T_slot 10 (.slice B5 (bpl n z) e6) (.slice B5 (32 * q) e6) rfl (by rw [hbl]) ?_
 refine T_as 0 _ (.row (.slice B5 (32 * q) e6) 5 1 (32 * q) ((bpb xs z).map b8)) rfl (by rw [hbl]) ?_
 refine T_slot 3 (.int .i64 z) (.int .i64 ((q : Nat) : Int)) rfl (by rw [hq]) ?_
 refine T_skip ?_
 refine T_seq ?_
 refine T_regD [.row (.slice B5 (32 * q) e6) 5 1 (32 * q) ((bpb xs z).map b8), .blk g2 25 [(.int .i64 (i64 pp)), (.int .i64 (i64 pr)), (.int .i64 (i64 pa)), (b64 pt), (.int .i64 (i64 pi))], .blk g1 22 (job.map b8), .rd A 4 n c (rcs xs)] 18 18 #[false, false, false, false, false, false, false, false, false, false, false, false, false, false, false, false, false, false] hF kr kr ?_
 refine D_pure (i := 3) [0, 1, 2, 3] rfl kr rfl (pr_fa (m := 0) (m' := 3) (z := 0) (by rfl) Tryz.underlying25 rfl kr rfl rfl) (.inr rfl) rfl rfl ?_
 refine D_pure (i := 5) [0, 1, 2, 3] rfl kr rfl (pr_fa (m := 0) (m' := 4) (z := 0) (by rfl) Tryz.underlying25 rfl kr rfl rfl) (.inr rfl) rfl rfl ?_
 refine D_pure (i := 9) [0, 1, 2, 3] rfl kr rfl (pr_move rfl rfl) (.inr rfl) rfl rfl ?_
 refine D_pure (i := 10) [0, 1, 2, 3] rfl kr rfl (pr_mul (nm_i64 (a := 32) (b := q) sd) rfl rfl rfl) (.inr rfl) rfl rfl ?_
 refine D_pure (i := 12) [0, 1, 2, 3] rfl kr rfl (pr_move rfl rfl) (.inr rfl) rfl rfl ?_
 refine D_take (i := 0) [0, 1, 2, 3] rfl kr rfl (ld_agg (ds := (job.map b8)) 2 rfl agg_all Tryz.underlying22 rfl (fwz (n := 32) kr sd) rfl rfl) rfl rfl rfl ?_
 refine D_take (i := 1) [0, 1, 2, 3] rfl kr rfl (ld_agg (ds := [(.int .i64 (i64 pp)), (.int .i64 (i64 pr)), (.int .i64 (i64 pa)), (b64 pt), (.int .i64 (i64 pi))]) 1 rfl agg_all Tryz.underlying25 rfl kr rfl rfl) rfl rfl rfl ?_
 refine D_take (i := 4) [0, 1, 2, 3] rfl kr rfl (ld_blk 1 rfl rfl Tryz.underlying23 rfl rfl rfl) rfl rfl rfl ?_
 refine D_take (i := 6) [0, 1, 2, 3] rfl kr rfl (ld_blk 1 rfl rfl Tryz.underlying3 rfl rfl rfl) rfl rfl rfl ?_
 refine D_take (i := 8) [0, 1, 2, 3] rfl kr rfl (ld_agg (ds := [(.int .i64 (i64 pp)), (.int .i64 (i64 pr)), (.int .i64 (i64 pa)), (b64 pt), (.int .i64 (i64 pi))]) 1 rfl agg_all Tryz.underlying25 rfl kr rfl rfl) rfl rfl rfl ?_
 refine D_one 2 _ rfl kr rfl (op_cn (fun w hw => rplace8_f job pp pr pa pt pi w (hok_nil w) aS) (enters_of Tryz.func19 kr rfl) rfl rfl rfl rfl rfl (fun t8 q9 => ?_))
 refine T_slot 23 _ (.agg ((pkey job pp pr pa).map b8).toArray) rfl (by rw [pkey_def]) ?_
 refine D_on [0, 1, 2, 3] rfl ?_
 refine D_one 7 _ rfl kr rfl (op_cn (fun w hw => rnonce_f pt pi w (hok_nil w) ) (enters_of Tryz.func20 kr rfl) rfl rfl rfl rfl rfl (fun t10 q11 => ?_))
 refine D_on [0, 1, 2, 3] rfl ?_
 refine D_one 11 _ rfl kr rfl (op_cn (fun w hw => raadn_f pp pr pa pt pi (32 * q) w (hok_nil w) sd) (enters_of Tryz.func21 kr rfl) rfl rfl rfl rfl rfl (fun t12 q13 => ?_))
 obtain ⟨B14, d15⟩ := t12
 refine T_slot 32 (.slice B14 48 d15) (.slice B14 48 d15) rfl (by congr 1) ?_
 refine T_as 0 _ (.row (.slice B14 48 d15) 5 1 48 ((eights [pp, pr, pa, pt, pi, (BitVec.ofNat 64 (32 * q))]).map b8)) rfl (rfl) ?_
 have haa := haq q
 refine T_as 0 _ (.row (.slice B14 48 d15) 5 1 48 ((paad pp pr pa pt pi q).map b8)) rfl (by rw [paad_def]) ?_
 refine D_on [1, 2, 3, 4] rfl ?_
 refine D_one 13 _ rfl kr rfl (op_cn (fun w hw => rseal_f (pkey job pp pr pa) (nonc pt pi) (paad pp pr pa pt pi q) (bpb xs z) B14 48 d15 B5 (32 * q) e6 w (hok_cons ((src_row 0 rfl) w hw) (hok_cons ((src_row 1 rfl) w hw) (hok_nil w))) aS aS aS hpl sd sd) (enters_of Tryz.func18 kr rfl) rfl rfl rfl rfl rfl (fun t16 q17 => ?_))
 obtain ⟨B18, d19⟩ := t16
 refine D_on [2, 3, 4, 5] rfl ?_
 refine D_pure (i := 14) [2, 3, 4, 5] rfl kr rfl (pr_ext (vs := [(.slice B18 ((32 * q) + 16) d19), (.int .i64 ((0 : Nat) : Int))]) rfl rfl rfl) (.inr rfl) rfl rfl ?_
 refine D_pure (i := 15) [2, 3, 4, 5] rfl kr rfl (pr_ext (vs := [(.slice B18 ((32 * q) + 16) d19), (.int .i64 ((0 : Nat) : Int))]) rfl rfl rfl) (.inr rfl) rfl rfl ?_
 refine D_pure (i := 16) [2, 3, 4, 5] rfl kr rfl (pr_assign rfl rfl) (.inr rfl) rfl rfl ?_
 refine D_pure (i := 17) [2, 3, 4, 5] rfl kr rfl (pr_assign rfl rfl) (.inr rfl) rfl rfl ?_
 refine D_done kr ?_
 refine T_ret ?_
 refine T_slot 8 (.slice B18 ((32 * q) + 16) d19) (.slice B18 (bsl n z) d19) rfl (by rw [bsl_ok aS hq]) ?_
 refine T_slot 9 (.int .i64 ((0 : Nat) : Int)) (.int .i64 (((bpe n z) : Nat) : Int)) rfl (by congr 1; congr 1; omega) ?_
 refine T_as 0 _ (.row (.slice B18 (bsl n z) d19) 5 1 (bsl n z) ((bsb job pp pr pa pt pi xs z).map b8)) rfl (by rw [bsl_ok aS hq, bsb_ok hx aS hq]) ?_
 exact T_fin (B18, d19) qN (res2 rfl rfl rfl) [0] ⟨by decide, rfl⟩ rfl
set_option maxRecDepth 100000 in
set_option maxHeartbeats 4000000 in
theorem bopenA_f (job : List (BitVec 8)) (pp : BitVec 64) (pr : BitVec 64) (pa : BitVec 64) (pt : BitVec 64) (pi : BitVec 64) (b : List (BitVec 8)) (A : Option Addr) (n : Nat) (c : Nat) (z : Int) (w : World) (hO : HOK [.rd A 1 n c (b.map b8)] w) (hj : job.length = 32) (hb : b.length = n) (hn : n ≤ 65552) : Calls Tryz.prog 8 [(.agg (job.map b8).toArray), (.agg [(.int .i64 (i64 pp)), (.int .i64 (i64 pr)), (.int .i64 (i64 pa)), (b64 pt), (.int .i64 (i64 pi))].toArray), (.int .i64 z), (.slice A n c)].toArray w (Ret (T := Option Addr × Nat) [] w (fun ⟨E, e⟩ => True) (fun ⟨E, e⟩ => (.tuple [(.slice E (bon job pp pr pa pt pi z b) e), (.int .i64 (((boe job pp pr pa pt pi z b) : Nat) : Int))].toArray)) (fun ⟨E, e⟩ => [.row (.slice E (bon job pp pr pa pt pi z b) e) 37 4 (bon job pp pr pa pt pi z b) (rcs (bok job pp pr pa pt pi z b))])) := by
 have hpk := pkey_len job pp pr pa
 have hnn := nonc_len pt pi
 have huu : ((pkey job pp pr pa) ++ (nonc pt pi)).length = 44 := by rw [List.length_append, hpk, hnn]
 have haq := fun q => paad_len pp pr pa pt pi q
 have hF : Wid Fence.wide := wid_wide
 refine enter (c := _) Tryz.func8 rfl [] _ [.rd A 1 n c (b.map b8)] (by rw [Tryz.ntmps8]; rfl) (own_rds hO rfl) ?_
 rw [Tryz.ntmps8]
 refine lE [(0, (.agg (job.map b8).toArray)), (1, (.agg [(.int .i64 (i64 pp)), (.int .i64 (i64 pr)), (.int .i64 (i64 pa)), (b64 pt), (.int .i64 (i64 pi))].toArray)), (2, (.int .i64 z)), (3, (.slice A n c))] ?_
 refine lH [0] [.rd A 1 n c (b.map b8)] ?_
 refine lT ?_
 refine L_op rfl (op_box (zs := (job.map b8)) rfl rfl rfl rfl rfl (fun g1 => ?_))
 refine L_op rfl (op_box (zs := [(.int .i64 (i64 pp)), (.int .i64 (i64 pr)), (.int .i64 (i64 pa)), (b64 pt), (.int .i64 (i64 pi))]) rfl rfl rfl rfl rfl (fun g2 => ?_))
 refine lS ?_
 refine lS ?_
 refine L_nil ?_
 refine T_seq ?_
 refine lT ?_
 refine lM ?_
 refine L_op rfl (op_cn (fun w hw => may_f z w (hok_nil w) ) (enters_of Tryz.func22 kr rfl) rfl rfl rfl rfl rfl (fun t3 q4 => ?_))
 refine lO (pr_un rfl rfl rfl) ?_
 refine L_nil ?_
 refine T_cond (!(mayb z)) rfl (fun hc_5 => ?_) (fun hc_5 => ?_)
 ·refine lT ?_
  refine lS ?_
  refine lS ?_
  refine L_nil ?_
  refine T_ret ?_
  refine T_slot 8 (.slice none 0 0) (.slice none (bon job pp pr pa pt pi z b) 0) rfl (by rw [(bo_arg (job := job) (pp := pp) (pr := pr) (pa := pa) (pt := pt) (pi := pi) (b := b) aS).2.1]) ?_
  refine T_slot 9 (.int .i64 ((1 : Nat) : Int)) (.int .i64 (((boe job pp pr pa pt pi z b) : Nat) : Int)) rfl (by rw [(bo_arg (job := job) (pp := pp) (pr := pr) (pa := pa) (pt := pt) (pi := pi) (b := b) aS).1]) ?_
  refine T_nilrow 37 4 ?_
  refine T_as 0 _ (.row (.slice none (bon job pp pr pa pt pi z b) 0) 37 4 (bon job pp pr pa pt pi z b) (rcs (bok job pp pr pa pt pi z b))) rfl (by rw [(bo_arg (job := job) (pp := pp) (pr := pr) (pa := pa) (pt := pt) (pi := pi) (b := b) aS).2.1, (bo_arg (job := job) (pp := pp) (pr := pr) (pa := pa) (pt := pt) (pi := pi) (b := b) aS).2.2]; rfl) ?_
  exact T_fin (none, 0) qN (res2 rfl rfl rfl) [0] ⟨by decide, rfl⟩ rfl
 have hmz : (!mayb z) = false := by assumption
 obtain ⟨hz1, hz2⟩ := mayb_t hmz
 obtain ⟨q, hq⟩ : ∃ q : Nat, z = (q : Int) := ⟨z.toNat, by omega⟩
 have hq8 : q ≤ 8 := by omega
 have haa := haq q
 refine T_skip ?_
 refine lT ?_
 refine lQ (ld_agg (ds := (job.map b8)) 1 rfl agg_all Tryz.underlying22 rfl (fwz (n := 32) kr sd) rfl rfl) ?_
 refine lQ (ld_agg (ds := [(.int .i64 (i64 pp)), (.int .i64 (i64 pr)), (.int .i64 (i64 pa)), (b64 pt), (.int .i64 (i64 pi))]) 0 rfl agg_all Tryz.underlying25 rfl kr rfl rfl) ?_
 refine L_op rfl (op_cn (fun w hw => buse_f job pp pr pa pt pi w (hok_nil w) aS) (enters_of Tryz.func14 kr rfl) rfl rfl rfl rfl rfl (fun t6 q7 => ?_))
 refine L_op rfl (op_alloc (z := .agg [(b8 (0#8)), (b8 (0#8)), (b8 (0#8)), (b8 (0#8)), (b8 (0#8)), (b8 (0#8)), (b8 (0#8)), (b8 (0#8)), (b8 (0#8)), (b8 (0#8)), (b8 (0#8)), (b8 (0#8)), (b8 (0#8)), (b8 (0#8)), (b8 (0#8)), (b8 (0#8)), (b8 (0#8)), (b8 (0#8)), (b8 (0#8)), (b8 (0#8)), (b8 (0#8)), (b8 (0#8)), (b8 (0#8)), (b8 (0#8)), (b8 (0#8)), (b8 (0#8)), (b8 (0#8)), (b8 (0#8)), (b8 (0#8)), (b8 (0#8)), (b8 (0#8)), (b8 (0#8)), (b8 (0#8)), (b8 (0#8)), (b8 (0#8)), (b8 (0#8)), (b8 (0#8)), (b8 (0#8)), (b8 (0#8)), (b8 (0#8)), (b8 (0#8)), (b8 (0#8)), (b8 (0#8)), (b8 (0#8))].toArray) (zs := [(b8 (0#8)), (b8 (0#8)), (b8 (0#8)), (b8 (0#8)), (b8 (0#8)), (b8 (0#8)), (b8 (0#8)), (b8 (0#8)), (b8 (0#8)), (b8 (0#8)), (b8 (0#8)), (b8 (0#8)), (b8 (0#8)), (b8 (0#8)), (b8 (0#8)), (b8 (0#8)), (b8 (0#8)), (b8 (0#8)), (b8 (0#8)), (b8 (0#8)), (b8 (0#8)), (b8 (0#8)), (b8 (0#8)), (b8 (0#8)), (b8 (0#8)), (b8 (0#8)), (b8 (0#8)), (b8 (0#8)), (b8 (0#8)), (b8 (0#8)), (b8 (0#8)), (b8 (0#8)), (b8 (0#8)), (b8 (0#8)), (b8 (0#8)), (b8 (0#8)), (b8 (0#8)), (b8 (0#8)), (b8 (0#8)), (b8 (0#8)), (b8 (0#8)), (b8 (0#8)), (b8 (0#8)), (b8 (0#8))]) kr rfl rfl rfl rfl (fun g8 => ?_))
 refine L_op rfl (op_sto (n := 44) (vs := (((pkey job pp pr pa) ++ (nonc pt pi)).map b8)) 0 rfl rfl kr (all8_one _) kr sd rfl rfl rfl rfl ?_)
 refine L_nil ?_
 refine T_seq ?_
 refine T_regD [.blk g8 45 (((pkey job pp pr pa) ++ (nonc pt pi)).map b8), .blk g2 25 [(.int .i64 (i64 pp)), (.int .i64 (i64 pr)), (.int .i64 (i64 pa)), (b64 pt), (.int .i64 (i64 pi))], .blk g1 22 (job.map b8), .rd A 1 n c (b.map b8)] 15 15 #[false, false, false, false, false, false, false, false, false, false, false, false, false, false, false] hF kr kr ?_
 refine D_pure (i := 0) [0, 1, 2, 3] rfl kr rfl (pr_fa (m := 0) (m' := 0) (z := 31) (by rfl) Tryz.underlying45 rfl kr rfl rfl) (.inr rfl) rfl rfl ?_
 refine D_pure (i := 2) [0, 1, 2, 3] rfl kr rfl (pr_fa (m := 0) (m' := 32) (z := 11) (by rfl) Tryz.underlying45 rfl kr rfl rfl) (.inr rfl) rfl rfl ?_
 refine D_pure (i := 5) [0, 1, 2, 3] rfl kr rfl (pr_move rfl rfl) (.inr rfl) rfl rfl ?_
 refine D_pure (i := 6) [0, 1, 2, 3] rfl kr rfl (pr_mul (zw_i64 (z := (z * ((32 : Nat) : Int))) sd) rfl rfl rfl) (.inr rfl) rfl rfl ?_
 refine T_slot 26 (.int .i64 (z * ((32 : Nat) : Int))) (.int .i64 ((32 * q : Nat) : Int)) rfl (by rw [hq] <;> first | (congr 1; done) | (congr 1; omega)) ?_
 refine D_pure (i := 8) [0, 1, 2, 3] rfl kr rfl (pr_move rfl rfl) (.inr rfl) rfl rfl ?_
 refine D_take (i := 1) [0, 1, 2, 3] rfl kr rfl (ld_agg (ds := ((List.take 32 ((pkey job pp pr pa) ++ (nonc pt pi))).map b8)) 0 rfl (by simp [List.map_take, List.map_drop]) Tryz.underlying22 rfl (fwz (n := 32) kr sd) rfl rfl) rfl rfl rfl ?_
 refine T_slot 21 _ (.agg ((pkey job pp pr pa).map b8).toArray) rfl (by rw [ptake hpk]) ?_
 refine D_take (i := 3) [0, 1, 2, 3] rfl kr rfl (ld_agg (ds := ((List.take 12 (List.drop 32 ((pkey job pp pr pa) ++ (nonc pt pi)))).map b8)) 0 rfl (by simp [List.map_take, List.map_drop]) Tryz.underlying43 rfl (fwz (n := 12) kr sd) rfl rfl) rfl rfl rfl ?_
 refine T_slot 23 _ (.agg ((nonc pt pi).map b8).toArray) rfl (by rw [pdrop hpk hnn]) ?_
 refine D_take (i := 4) [0, 1, 2, 3] rfl kr rfl (ld_agg (ds := [(.int .i64 (i64 pp)), (.int .i64 (i64 pr)), (.int .i64 (i64 pa)), (b64 pt), (.int .i64 (i64 pi))]) 1 rfl agg_all Tryz.underlying25 rfl kr rfl rfl) rfl rfl rfl ?_
 refine D_one 7 _ rfl kr rfl (op_cn (fun w hw => kaad_f pp pr pa pt pi (32 * q) w (hok_nil w) sd) (enters_of Tryz.func16 kr rfl) rfl rfl rfl rfl rfl (fun t9 q10 => ?_))
 obtain ⟨B11, d12⟩ := t9
 have haa := haq q
 refine T_as 0 _ (.old B11 1 48 d12 ((paad pp pr pa pt pi q).map b8)) rfl (by rw [paad_def]) ?_
 refine D_on [1, 2, 3, 4] rfl ?_
 refine D_one 9 _ rfl kr rfl (op_cn (fun w hw => openA_f (pkey job pp pr pa) (nonc pt pi) (paad pp pr pa pt pi q) b B11 48 d12 A n c w (hok_cons ((src_old 0 rfl) w hw) (hok_cons ((src_rd 4 rfl) w hw) (hok_nil w))) aS aS aS hb sd sd) (enters_of Tryz.func23 kr rfl) rfl rfl rfl rfl rfl (fun t13 q14 => ?_))
 obtain ⟨B15, d16⟩ := t13
 refine D_on [2, 3, 4, 5] rfl ?_
 refine D_pure (i := 10) [2, 3, 4, 5] rfl kr rfl (pr_move rfl rfl) (.inr rfl) rfl rfl ?_
 refine D_pure (i := 11) [2, 3, 4, 5] rfl kr rfl (pr_ext (vs := [(.slice B15 (aol (pkey job pp pr pa) (nonc pt pi) (paad pp pr pa pt pi q) b) d16), (.int .i64 (((aoe (pkey job pp pr pa) (nonc pt pi) (paad pp pr pa pt pi q) b) : Nat) : Int))]) rfl rfl rfl) (.inr rfl) rfl rfl ?_
 refine D_pure (i := 12) [2, 3, 4, 5] rfl kr rfl (pr_ext (vs := [(.slice B15 (aol (pkey job pp pr pa) (nonc pt pi) (paad pp pr pa pt pi q) b) d16), (.int .i64 (((aoe (pkey job pp pr pa) (nonc pt pi) (paad pp pr pa pt pi q) b) : Nat) : Int))]) rfl rfl rfl) (.inr rfl) rfl rfl ?_
 refine D_pure (i := 13) [2, 3, 4, 5] rfl kr rfl (pr_assign rfl rfl) (.inr rfl) rfl rfl ?_
 refine D_pure (i := 14) [2, 3, 4, 5] rfl kr rfl (pr_assign rfl rfl) (.inr rfl) rfl rfl ?_
 refine D_done kr ?_
 refine T_seq ?_
 refine lT ?_
 refine lM ?_
 refine lO (pr_cmp (bo := .neq) (nc_ne (a := (aoe (pkey job pp pr pa) (nonc pt pi) (paad pp pr pa pt pi q) b)) (b := 0)) rfl rfl rfl rfl) ?_
 refine L_nil ?_
 refine T_cond ((aoe (pkey job pp pr pa) (nonc pt pi) (paad pp pr pa pt pi q) b) != 0) rfl (fun hc_17 => ?_) (fun hc_17 => ?_)
 ·have hc_17 : ¬ (aoe (pkey job pp pr pa) (nonc pt pi) (paad pp pr pa pt pi q) b) = 0 := by simpa using hc_17
  refine lT ?_
  refine lM ?_
  refine lS ?_
  refine lS ?_
  refine L_nil ?_
  refine T_ret ?_
  refine T_slot 8 (.slice none 0 0) (.slice none (bon job pp pr pa pt pi z b) 0) rfl (by rw [(bo_err aS hq aS).2.1]) ?_
  refine T_slot 9 _ (.int .i64 (((boe job pp pr pa pt pi z b) : Nat) : Int)) rfl (by rw [(bo_err aS hq aS).1]) ?_
  refine T_nilrow 37 4 ?_
  refine T_as 0 _ (.row (.slice none (bon job pp pr pa pt pi z b) 0) 37 4 (bon job pp pr pa pt pi z b) (rcs (bok job pp pr pa pt pi z b))) rfl (by rw [(bo_err aS hq aS).2.1, (bo_err aS hq aS).2.2]; rfl) ?_
  exact T_fin (none, 0) qN (res2 rfl rfl rfl) [0] ⟨by decide, rfl⟩ rfl
 have hc_17 : (aoe (pkey job pp pr pa) (nonc pt pi) (paad pp pr pa pt pi q) b) = 0 := by simpa using hc_17
 have hae : aoe (pkey job pp pr pa) (nonc pt pi) (paad pp pr pa pt pi q) b = 0 := by assumption
 have hal := aol_ok hb hae
 have hap := aob_ok hae
 have hapl := aplain_len (pkey job pp pr pa) (nonc pt pi) b
 refine T_as 0 _ (.row (.slice B15 (n - 16) d16) 5 1 (n - 16) ((aplain (pkey job pp pr pa) (nonc pt pi) b).map b8)) rfl (by rw [hal, hap]) ?_
 refine T_slot 11 _ (.slice B15 (n - 16) d16) rfl (by rw [hal]) ?_
 refine T_skip ?_
 refine lT ?_
 refine lM ?_
 refine lM ?_
 refine L_op rfl (op_cn (fun w hw => btake_f (aplain (pkey job pp pr pa) (nonc pt pi) b) z B15 (n - 16) d16 w (hok_cons ((src_row 0 rfl) w hw) (hok_nil w)) sd sd) (enters_of Tryz.func24 kr rfl) rfl rfl rfl rfl rfl (fun t18 q19 => ?_))
 obtain ⟨B20, e21⟩ := t18
 refine lO (pr_ext (vs := [(.slice B20 (btn (aplain (pkey job pp pr pa) (nonc pt pi) b) z) e21), (.int .i64 (((bte (aplain (pkey job pp pr pa) (nonc pt pi) b) z) : Nat) : Int))]) rfl rfl rfl) ?_
 refine lO (pr_ext (vs := [(.slice B20 (btn (aplain (pkey job pp pr pa) (nonc pt pi) b) z) e21), (.int .i64 (((bte (aplain (pkey job pp pr pa) (nonc pt pi) b) z) : Nat) : Int))]) rfl rfl rfl) ?_
 refine lS ?_
 refine lS ?_
 refine L_nil ?_
 refine T_ret ?_
 refine T_slot 8 _ (.slice B20 (bon job pp pr pa pt pi z b) e21) rfl (by rw [(bo_ok aS hq aS).2.1]) ?_
 refine T_slot 9 _ (.int .i64 (((boe job pp pr pa pt pi z b) : Nat) : Int)) rfl (by rw [(bo_ok aS hq aS).1]) ?_
 refine T_as 0 _ (.row (.slice B20 (bon job pp pr pa pt pi z b) e21) 37 4 (bon job pp pr pa pt pi z b) (rcs (bok job pp pr pa pt pi z b))) rfl (by rw [(bo_ok aS hq aS).2.1, (bo_ok aS hq aS).2.2]) ?_
 exact T_fin (B20, e21) qN (res2 rfl rfl rfl) [0] ⟨by decide, rfl⟩ rfl
set_option maxRecDepth 100000 in
set_option maxHeartbeats 4000000 in
theorem rbopenA_f (job : List (BitVec 8)) (pp : BitVec 64) (pr : BitVec 64) (pa : BitVec 64) (pt : BitVec 64) (pi : BitVec 64) (b : List (BitVec 8)) (A : Option Addr) (n : Nat) (c : Nat) (z : Int) (w : World) (hO : HOK [.rd A 1 n c (b.map b8)] w) (hj : job.length = 32) (hb : b.length = n) (hn : n ≤ 65552) : Calls Tryz.prog 9 [(.agg (job.map b8).toArray), (.agg [(.int .i64 (i64 pp)), (.int .i64 (i64 pr)), (.int .i64 (i64 pa)), (b64 pt), (.int .i64 (i64 pi))].toArray), (.int .i64 z), (.slice A n c)].toArray w (Ret (T := Option Addr × Nat) [] w (fun ⟨E, e⟩ => True) (fun ⟨E, e⟩ => (.tuple [(.slice E (bon job pp pr pa pt pi z b) e), (.int .i64 (((boe job pp pr pa pt pi z b) : Nat) : Int))].toArray)) (fun ⟨E, e⟩ => [.row (.slice E (bon job pp pr pa pt pi z b) e) 37 4 (bon job pp pr pa pt pi z b) (rcs (bok job pp pr pa pt pi z b))])) := by
 have hpk := pkey_len job pp pr pa
 have hnn := nonc_len pt pi
 have huu : ((pkey job pp pr pa) ++ (nonc pt pi)).length = 44 := by rw [List.length_append, hpk, hnn]
 have haq := fun q => paad_len pp pr pa pt pi q
 have hF : Wid Fence.wide := wid_wide
 refine enter (c := _) Tryz.func9 rfl [] _ [.rd A 1 n c (b.map b8)] (by rw [Tryz.ntmps9]; rfl) (own_rds hO rfl) ?_
 rw [Tryz.ntmps9]
 refine lE [(0, (.agg (job.map b8).toArray)), (1, (.agg [(.int .i64 (i64 pp)), (.int .i64 (i64 pr)), (.int .i64 (i64 pa)), (b64 pt), (.int .i64 (i64 pi))].toArray)), (2, (.int .i64 z)), (3, (.slice A n c))] ?_
 refine lH [0] [.rd A 1 n c (b.map b8)] ?_
 refine lT ?_
 refine L_op rfl (op_box (zs := (job.map b8)) rfl rfl rfl rfl rfl (fun g1 => ?_))
 refine L_op rfl (op_box (zs := [(.int .i64 (i64 pp)), (.int .i64 (i64 pr)), (.int .i64 (i64 pa)), (b64 pt), (.int .i64 (i64 pi))]) rfl rfl rfl rfl rfl (fun g2 => ?_))
 refine lS ?_
 refine lS ?_
 refine L_nil ?_
 refine T_seq ?_
 refine lT ?_
 refine lM ?_
 refine L_op rfl (op_cn (fun w hw => rmay_f z w (hok_nil w) ) (enters_of Tryz.func25 kr rfl) rfl rfl rfl rfl rfl (fun t3 q4 => ?_))
 refine lO (pr_un rfl rfl rfl) ?_
 refine L_nil ?_
 refine T_cond (!(mayb z)) rfl (fun hc_5 => ?_) (fun hc_5 => ?_)
 ·refine lT ?_
  refine lS ?_
  refine lS ?_
  refine L_nil ?_
  refine T_ret ?_
  refine T_slot 8 (.slice none 0 0) (.slice none (bon job pp pr pa pt pi z b) 0) rfl (by rw [(bo_arg (job := job) (pp := pp) (pr := pr) (pa := pa) (pt := pt) (pi := pi) (b := b) aS).2.1]) ?_
  refine T_slot 9 (.int .i64 ((1 : Nat) : Int)) (.int .i64 (((boe job pp pr pa pt pi z b) : Nat) : Int)) rfl (by rw [(bo_arg (job := job) (pp := pp) (pr := pr) (pa := pa) (pt := pt) (pi := pi) (b := b) aS).1]) ?_
  refine T_nilrow 37 4 ?_
  refine T_as 0 _ (.row (.slice none (bon job pp pr pa pt pi z b) 0) 37 4 (bon job pp pr pa pt pi z b) (rcs (bok job pp pr pa pt pi z b))) rfl (by rw [(bo_arg (job := job) (pp := pp) (pr := pr) (pa := pa) (pt := pt) (pi := pi) (b := b) aS).2.1, (bo_arg (job := job) (pp := pp) (pr := pr) (pa := pa) (pt := pt) (pi := pi) (b := b) aS).2.2]; rfl) ?_
  exact T_fin (none, 0) qN (res2 rfl rfl rfl) [0] ⟨by decide, rfl⟩ rfl
 have hmz : (!mayb z) = false := by assumption
 obtain ⟨hz1, hz2⟩ := mayb_t hmz
 obtain ⟨q, hq⟩ : ∃ q : Nat, z = (q : Int) := ⟨z.toNat, by omega⟩
 have hq8 : q ≤ 8 := by omega
 have haa := haq q
 refine T_skip ?_
 refine T_seq ?_
 refine T_regD [.blk g2 25 [(.int .i64 (i64 pp)), (.int .i64 (i64 pr)), (.int .i64 (i64 pa)), (b64 pt), (.int .i64 (i64 pi))], .blk g1 22 (job.map b8), .rd A 1 n c (b.map b8)] 19 19 #[false, false, false, false, false, false, false, false, false, false, false, false, false, false, false, false, false, false, false] hF kr kr ?_
 refine D_pure (i := 3) [0, 1, 2] rfl kr rfl (pr_fa (m := 0) (m' := 3) (z := 0) (by rfl) Tryz.underlying25 rfl kr rfl rfl) (.inr rfl) rfl rfl ?_
 refine D_pure (i := 5) [0, 1, 2] rfl kr rfl (pr_fa (m := 0) (m' := 4) (z := 0) (by rfl) Tryz.underlying25 rfl kr rfl rfl) (.inr rfl) rfl rfl ?_
 refine D_pure (i := 9) [0, 1, 2] rfl kr rfl (pr_move rfl rfl) (.inr rfl) rfl rfl ?_
 refine D_pure (i := 10) [0, 1, 2] rfl kr rfl (pr_mul (zw_i64 (z := (((32 : Nat) : Int) * z)) sd) rfl rfl rfl) (.inr rfl) rfl rfl ?_
 refine T_slot 26 (.int .i64 (((32 : Nat) : Int) * z)) (.int .i64 ((32 * q : Nat) : Int)) rfl (by rw [hq] <;> first | (congr 1; done) | (congr 1; omega)) ?_
 refine D_pure (i := 12) [0, 1, 2] rfl kr rfl (pr_move rfl rfl) (.inr rfl) rfl rfl ?_
 refine D_take (i := 0) [0, 1, 2] rfl kr rfl (ld_agg (ds := (job.map b8)) 1 rfl agg_all Tryz.underlying22 rfl (fwz (n := 32) kr sd) rfl rfl) rfl rfl rfl ?_
 refine D_take (i := 1) [0, 1, 2] rfl kr rfl (ld_agg (ds := [(.int .i64 (i64 pp)), (.int .i64 (i64 pr)), (.int .i64 (i64 pa)), (b64 pt), (.int .i64 (i64 pi))]) 0 rfl agg_all Tryz.underlying25 rfl kr rfl rfl) rfl rfl rfl ?_
 refine D_take (i := 4) [0, 1, 2] rfl kr rfl (ld_blk 0 rfl rfl Tryz.underlying23 rfl rfl rfl) rfl rfl rfl ?_
 refine D_take (i := 6) [0, 1, 2] rfl kr rfl (ld_blk 0 rfl rfl Tryz.underlying3 rfl rfl rfl) rfl rfl rfl ?_
 refine D_take (i := 8) [0, 1, 2] rfl kr rfl (ld_agg (ds := [(.int .i64 (i64 pp)), (.int .i64 (i64 pr)), (.int .i64 (i64 pa)), (b64 pt), (.int .i64 (i64 pi))]) 0 rfl agg_all Tryz.underlying25 rfl kr rfl rfl) rfl rfl rfl ?_
 refine D_one 2 _ rfl kr rfl (op_cn (fun w hw => rplace8_f job pp pr pa pt pi w (hok_nil w) aS) (enters_of Tryz.func19 kr rfl) rfl rfl rfl rfl rfl (fun t6 q7 => ?_))
 refine T_slot 18 _ (.agg ((pkey job pp pr pa).map b8).toArray) rfl (by rw [pkey_def]) ?_
 refine D_on [0, 1, 2] rfl ?_
 refine D_one 7 _ rfl kr rfl (op_cn (fun w hw => rnonce_f pt pi w (hok_nil w) ) (enters_of Tryz.func20 kr rfl) rfl rfl rfl rfl rfl (fun t8 q9 => ?_))
 refine D_on [0, 1, 2] rfl ?_
 refine D_one 11 _ rfl kr rfl (op_cn (fun w hw => raadn_f pp pr pa pt pi (32 * q) w (hok_nil w) sd) (enters_of Tryz.func21 kr rfl) rfl rfl rfl rfl rfl (fun t10 q11 => ?_))
 obtain ⟨B12, d13⟩ := t10
 refine T_slot 27 (.slice B12 48 d13) (.slice B12 48 d13) rfl (by congr 1) ?_
 refine T_as 0 _ (.row (.slice B12 48 d13) 5 1 48 ((eights [pp, pr, pa, pt, pi, (BitVec.ofNat 64 (32 * q))]).map b8)) rfl (rfl) ?_
 have haa := haq q
 refine T_as 0 _ (.row (.slice B12 48 d13) 5 1 48 ((paad pp pr pa pt pi q).map b8)) rfl (by rw [paad_def]) ?_
 refine D_on [1, 2, 3] rfl ?_
 refine D_one 13 _ rfl kr rfl (op_cn (fun w hw => ropenA_f (pkey job pp pr pa) (nonc pt pi) (paad pp pr pa pt pi q) b B12 48 d13 A n c w (hok_cons ((src_row 0 rfl) w hw) (hok_cons ((src_rd 3 rfl) w hw) (hok_nil w))) aS aS aS hb sd sd) (enters_of Tryz.func26 kr rfl) rfl rfl rfl rfl rfl (fun t14 q15 => ?_))
 obtain ⟨B16, d17⟩ := t14
 refine D_on [2, 3, 4] rfl ?_
 refine D_pure (i := 14) [2, 3, 4] rfl kr rfl (pr_move rfl rfl) (.inr rfl) rfl rfl ?_
 refine D_pure (i := 15) [2, 3, 4] rfl kr rfl (pr_ext (vs := [(.slice B16 (aol (pkey job pp pr pa) (nonc pt pi) (paad pp pr pa pt pi q) b) d17), (.int .i64 (((aoe (pkey job pp pr pa) (nonc pt pi) (paad pp pr pa pt pi q) b) : Nat) : Int))]) rfl rfl rfl) (.inr rfl) rfl rfl ?_
 refine D_pure (i := 16) [2, 3, 4] rfl kr rfl (pr_ext (vs := [(.slice B16 (aol (pkey job pp pr pa) (nonc pt pi) (paad pp pr pa pt pi q) b) d17), (.int .i64 (((aoe (pkey job pp pr pa) (nonc pt pi) (paad pp pr pa pt pi q) b) : Nat) : Int))]) rfl rfl rfl) (.inr rfl) rfl rfl ?_
 refine D_pure (i := 17) [2, 3, 4] rfl kr rfl (pr_assign rfl rfl) (.inr rfl) rfl rfl ?_
 refine D_pure (i := 18) [2, 3, 4] rfl kr rfl (pr_assign rfl rfl) (.inr rfl) rfl rfl ?_
 refine D_done kr ?_
 refine T_seq ?_
 refine lT ?_
 refine lM ?_
 refine lO (pr_cmp (bo := .neq) (nc_ne (a := (aoe (pkey job pp pr pa) (nonc pt pi) (paad pp pr pa pt pi q) b)) (b := 0)) rfl rfl rfl rfl) ?_
 refine L_nil ?_
 refine T_cond ((aoe (pkey job pp pr pa) (nonc pt pi) (paad pp pr pa pt pi q) b) != 0) rfl (fun hc_18 => ?_) (fun hc_18 => ?_)
 ·have hc_18 : ¬ (aoe (pkey job pp pr pa) (nonc pt pi) (paad pp pr pa pt pi q) b) = 0 := by simpa using hc_18
  refine lT ?_
  refine lM ?_
  refine lS ?_
  refine lS ?_
  refine L_nil ?_
  refine T_ret ?_
  refine T_slot 8 (.slice none 0 0) (.slice none (bon job pp pr pa pt pi z b) 0) rfl (by rw [(bo_err aS hq aS).2.1]) ?_
  refine T_slot 9 _ (.int .i64 (((boe job pp pr pa pt pi z b) : Nat) : Int)) rfl (by rw [(bo_err aS hq aS).1]) ?_
  refine T_nilrow 37 4 ?_
  refine T_as 0 _ (.row (.slice none (bon job pp pr pa pt pi z b) 0) 37 4 (bon job pp pr pa pt pi z b) (rcs (bok job pp pr pa pt pi z b))) rfl (by rw [(bo_err aS hq aS).2.1, (bo_err aS hq aS).2.2]; rfl) ?_
  exact T_fin (none, 0) qN (res2 rfl rfl rfl) [0] ⟨by decide, rfl⟩ rfl
 have hc_18 : (aoe (pkey job pp pr pa) (nonc pt pi) (paad pp pr pa pt pi q) b) = 0 := by simpa using hc_18
 have hae : aoe (pkey job pp pr pa) (nonc pt pi) (paad pp pr pa pt pi q) b = 0 := by assumption
 have hal := aol_ok hb hae
 have hap := aob_ok hae
 have hapl := aplain_len (pkey job pp pr pa) (nonc pt pi) b
 refine T_as 0 _ (.row (.slice B16 (n - 16) d17) 5 1 (n - 16) ((aplain (pkey job pp pr pa) (nonc pt pi) b).map b8)) rfl (by rw [hal, hap]) ?_
 refine T_slot 10 _ (.slice B16 (n - 16) d17) rfl (by rw [hal]) ?_
 refine T_skip ?_
 refine lT ?_
 refine lM ?_
 refine lM ?_
 refine L_op rfl (op_cn (fun w hw => rbtake_f (aplain (pkey job pp pr pa) (nonc pt pi) b) z B16 (n - 16) d17 w (hok_cons ((src_row 0 rfl) w hw) (hok_nil w)) sd sd) (enters_of Tryz.func27 kr rfl) rfl rfl rfl rfl rfl (fun t19 q20 => ?_))
 obtain ⟨B21, e22⟩ := t19
 refine lO (pr_ext (vs := [(.slice B21 (btn (aplain (pkey job pp pr pa) (nonc pt pi) b) z) e22), (.int .i64 (((bte (aplain (pkey job pp pr pa) (nonc pt pi) b) z) : Nat) : Int))]) rfl rfl rfl) ?_
 refine lO (pr_ext (vs := [(.slice B21 (btn (aplain (pkey job pp pr pa) (nonc pt pi) b) z) e22), (.int .i64 (((bte (aplain (pkey job pp pr pa) (nonc pt pi) b) z) : Nat) : Int))]) rfl rfl rfl) ?_
 refine lS ?_
 refine lS ?_
 refine L_nil ?_
 refine T_ret ?_
 refine T_slot 8 _ (.slice B21 (bon job pp pr pa pt pi z b) e22) rfl (by rw [(bo_ok aS hq aS).2.1]) ?_
 refine T_slot 9 _ (.int .i64 (((boe job pp pr pa pt pi z b) : Nat) : Int)) rfl (by rw [(bo_ok aS hq aS).1]) ?_
 refine T_as 0 _ (.row (.slice B21 (bon job pp pr pa pt pi z b) e22) 37 4 (bon job pp pr pa pt pi z b) (rcs (bok job pp pr pa pt pi z b))) rfl (by rw [(bo_ok aS hq aS).2.1, (bo_ok aS hq aS).2.2]) ?_
 exact T_fin (B21, e22) qN (res2 rfl rfl rfl) [0] ⟨by decide, rfl⟩ rfl
end Go.Proofs.YtlplpmkdebemnaaGreat
namespace Go.Proofs.YtlplpmkdebemnaaGreat
set_option maxRecDepth 100000
open Go.RowKit Bv Fw
set_option maxHeartbeats 4000000 in
theorem rplain1_f (d : Bool) (vk : BitVec 64) (vv : BitVec 64) (vs : BitVec 64) (w : World) (hO : HOK [] w)  : Calls Tryz.prog 29 [(.agg [(.bool d), (.int .i64 (i64 vk)), (.int .i64 (i64 vv)), (.int .i64 (i64 vs))].toArray), (.agg [(.bool d), (.int .i64 (i64 vk)), (.int .i64 (i64 vv)), (.int .i64 (i64 vs))].toArray)].toArray w (Ret (T := Unit) [] w (fun _ => True) (fun _ => (.bool true)) (fun _ => [])) := by
 refine enter (c := _) Tryz.func29 rfl [] _ [] (by rw [Tryz.ntmps29]; rfl) (own_rds hO rfl) ?_
 rw [Tryz.ntmps29]
 refine lE [(0, (.agg [(.bool d), (.int .i64 (i64 vk)), (.int .i64 (i64 vv)), (.int .i64 (i64 vs))].toArray)), (1, (.agg [(.bool d), (.int .i64 (i64 vk)), (.int .i64 (i64 vv)), (.int .i64 (i64 vs))].toArray))] ?_
 refine lH [] [] ?_
 refine lT ?_
 refine L_op rfl (op_box (zs := [(.bool d), (.int .i64 (i64 vk)), (.int .i64 (i64 vv)), (.int .i64 (i64 vs))]) rfl rfl rfl rfl rfl (fun g1 => ?_))
 refine L_op rfl (op_box (zs := [(.bool d), (.int .i64 (i64 vk)), (.int .i64 (i64 vv)), (.int .i64 (i64 vs))]) rfl rfl rfl rfl rfl (fun g2 => ?_))
 refine lS ?_
 refine lN ?_
 refine lQ (ld_agg (ds := [(.bool d), (.int .i64 (i64 vk)), (.int .i64 (i64 vv)), (.int .i64 (i64 vs))]) 1 rfl agg_all Tryz.underlying37 rfl kr rfl rfl) ?_
 refine lQ (ld_agg (ds := [(.bool d), (.int .i64 (i64 vk)), (.int .i64 (i64 vv)), (.int .i64 (i64 vs))]) 0 rfl agg_all Tryz.underlying37 rfl kr rfl rfl) ?_
 refine lO (pr_eqs (bo := .eql) (c := true) (r := true) (fun _ _ => eqs Tryz.underlying37 kr (eqt rfl (part1 Tryz.underlying4 rfl rfl) (part1 Tryz.underlying4 rfl rfl) (eqv_sb Tryz.underlying4) (eqt rfl (part1 Tryz.underlying2 rfl rfl) (part1 Tryz.underlying2 rfl rfl) (eqv_si Tryz.underlying2) (eqt rfl (part1 Tryz.underlying2 rfl rfl) (part1 Tryz.underlying2 rfl rfl) (eqv_si Tryz.underlying2) (eqt rfl (part1 Tryz.underlying2 rfl rfl) (part1 Tryz.underlying2 rfl rfl) (eqv_si Tryz.underlying2) eqf_nil))))) kr rfl rfl rfl rfl rfl) ?_
 refine lS ?_
 refine L_nil ?_
 refine T_ret ?_
 exact T_fin () qN (res1 rfl rfl) [] ⟨by decide, rfl⟩ rfl
set_option maxHeartbeats 4000000 in
theorem rsame_f (xs : List Rc) (A : Option Addr) (n : Nat) (c : Nat) (B : Option Addr) (e : Nat) (w : World) (hO : HOK [.rd A 4 n c (rcs xs), .rd B 4 n e (rcs xs)] w) (hx : xs.length = n) (hn : n ≤ 1000000) : Calls Tryz.prog 28 [(.slice A n c), (.slice B n e), (.func (.func 29) #[] [].toArray)].toArray w (Ret (T := Unit) [] w (fun _ => True) (fun _ => (.bool true)) (fun _ => [])) := by
 have hF : Wid Fence.wide := wid_wide
 refine enter (c := _) Tryz.func28 rfl [] _ [.rd A 4 n c (rcs xs), .rd B 4 n e (rcs xs)] (by rw [Tryz.ntmps28]; rfl) (own_rds hO rfl) ?_
 rw [Tryz.ntmps28]
 refine lE [(0, (.slice A n c)), (1, (.slice B n e)), (2, (.func (.func 29) #[] [].toArray))] ?_
 refine lH [0, 1] [.rd A 4 n c (rcs xs), .rd B 4 n e (rcs xs)] ?_
 refine lT ?_
 refine lS ?_
 refine L_nil ?_
 refine T_seq ?_
 refine lT ?_
 refine lM ?_
 refine lO (pr_len_sl Tryz.underlying26 rfl rfl) ?_
 refine lM ?_
 refine lO (pr_len_sl Tryz.underlying26 rfl rfl) ?_
 refine lO (pr_cmp (bo := .neq) (nc_ne (a := n) (b := n)) rfl rfl rfl rfl) ?_
 refine L_nil ?_
 refine T_cond_no (t := (n != n)) rfl (by simp) ?_
 refine T_skip ?_
 refine T_seq ?_
 refine lT ?_
 refine lS ?_
 refine L_nil ?_
 refine T_block ?_
 refine T_loop (T := Nat) (fun k => k ≤ n) (fun k => [(0, (.slice A n c)), (1, (.slice B n e)), (2, (.func (.func 29) #[] [].toArray)), (7, (.int .i64 ((k : Nat) : Int)))]) (fun k => [.rd A 4 n c (rcs xs), .rd B 4 n e (rcs xs)]) (fun k => n - k) 0 pN (sc rfl (sc rfl (sc rfl (sc rfl sn)))) [0, 1] ⟨by decide, rfl⟩ ?_
 rintro k hp
 have hp : k ≤ n := hp
 refine lE [(0, (.slice A n c)), (1, (.slice B n e)), (2, (.func (.func 29) #[] [].toArray)), (7, (.int .i64 ((k : Nat) : Int)))] ?_
 refine lH [0, 1] [.rd A 4 n c (rcs xs), .rd B 4 n e (rcs xs)] ?_
 refine T_seq ?_
 refine lT ?_
 refine lM ?_
 refine lM ?_
 refine lO (pr_len_sl Tryz.underlying26 rfl rfl) ?_
 refine lO (pr_cmp (bo := .lss) (nc_lt (a := k) (b := n)) rfl rfl rfl rfl) ?_
 refine L_nil ?_
 refine T_cond (decide (k < n)) rfl (fun hc_1 => ?_) (fun hc_1 => ?_)
 ·have hc_1 := of_decide_eq_true hc_1
  refine T_skip ?_
  refine T_seq ?_
  refine T_block ?_
  refine T_seq ?_
  refine T_regD [.rd A 4 n c (rcs xs), .rd B 4 n e (rcs xs)] 11 11 #[false, false, false, false, false, false, false, false, false, false, false] hF kr kr ?_
  refine D_pure (i := 0) [0, 1] rfl kr rfl (pr_move rfl rfl) (.inr rfl) rfl rfl ?_
  refine D_pure (i := 1) [0, 1] rfl kr rfl (pr_move rfl rfl) (.inr rfl) rfl rfl ?_
  refine D_pure (i := 2) [0, 1] rfl kr rfl (pr_move rfl rfl) (.inr rfl) rfl rfl ?_
  refine D_pure (i := 3) [0, 1] rfl kr rfl (pr_ixs (j := k) (src_none (src_rd 0 rfl)) sd Tryz.underlying26 (z := 4) kr rfl rfl rfl) (.inr rfl) rfl rfl ?_
  refine D_pure (i := 5) [0, 1] rfl kr rfl (pr_move rfl rfl) (.inr rfl) rfl rfl ?_
  refine D_pure (i := 6) [0, 1] rfl kr rfl (pr_move rfl rfl) (.inr rfl) rfl rfl ?_
  refine D_pure (i := 7) [0, 1] rfl kr rfl (pr_ixs (j := k) (src_none (src_rd 1 rfl)) sd Tryz.underlying26 (z := 4) kr rfl rfl rfl) (.inr rfl) rfl rfl ?_
  refine D_take (i := 4) [0, 1] rfl kr rfl (ld_rc (j := k) (src_rd 0 rfl) sd Tryz.underlying37 rfl kr rfl rfl) rfl rfl rfl ?_
  refine D_take (i := 8) [0, 1] rfl kr rfl (ld_rc (j := k) (src_rd 1 rfl) sd Tryz.underlying37 rfl kr rfl rfl) rfl rfl rfl ?_
  refine D_one 9 _ rfl kr rfl (op_cn (fun w hw => rplain1_f ((rat xs k).d) ((rat xs k).k) ((rat xs k).v) ((rat xs k).s) w (hok_nil w) ) (enters_of Tryz.func29 kr rfl) rfl rfl rfl rfl rfl (fun t2 q3 => ?_))
  refine D_on [0, 1] rfl ?_
  refine D_pure (i := 10) [0, 1] rfl kr rfl (pr_un (v := .bool false) rfl rfl rfl) (.inr rfl) rfl rfl ?_
  refine D_done kr ?_
  refine T_cond_f rfl ?_
  refine T_skip ?_
  refine lR ?_
  refine lM ?_
  refine lO (pr_add (na_i64 (a := k) (b := 1) sd) rfl rfl rfl) ?_
  refine lS ?_
  refine L_nil ?_
  exact T_again (k + 1) pN pN (sc rfl (sc rfl (sc rfl (sc rfl sn)))) [0, 1] ⟨by decide, rfl⟩
 have hc_1 := of_decide_eq_false hc_1
 refine T_exit rfl ?_
 refine lT ?_
 refine lS ?_
 refine L_nil ?_
 refine T_ret ?_
 exact T_fin () qN (res1 rfl rfl) [] ⟨by decide, rfl⟩ rfl
set_option maxHeartbeats 4000000 in
theorem rplain_f (xs : List Rc) (A : Option Addr) (n : Nat) (c : Nat) (B : Option Addr) (e : Nat) (w : World) (hO : HOK [.rd A 4 n c (rcs xs), .rd B 4 n e (rcs xs)] w) (hx : xs.length = n) (hn : n ≤ 1000000) : Calls Tryz.prog 11 [(.slice A n c), (.slice B n e)].toArray w (Ret (T := Unit) [] w (fun _ => True) (fun _ => (.bool true)) (fun _ => [])) := by
 refine enter (c := _) Tryz.func11 rfl [] _ [.rd A 4 n c (rcs xs), .rd B 4 n e (rcs xs)] (by rw [Tryz.ntmps11]; rfl) (own_rds hO rfl) ?_
 rw [Tryz.ntmps11]
 refine lE [(0, (.slice A n c)), (1, (.slice B n e))] ?_
 refine lH [0, 1] [.rd A 4 n c (rcs xs), .rd B 4 n e (rcs xs)] ?_
 refine lT ?_
 refine lS ?_
 refine lN ?_
 refine lM ?_
 refine lM ?_
 refine L_op rfl (op_cn (fun w hw => rsame_f xs A n c B e w (hok_cons ((src_rd 0 rfl) w hw) (hok_cons ((src_rd 1 rfl) w hw) (hok_nil w))) sd sd) (enters_of Tryz.func28 kr rfl) rfl rfl rfl rfl rfl (fun t1 q2 => ?_))
 refine lS ?_
 refine L_nil ?_
 refine T_ret ?_
 exact T_fin () qN (res1 rfl rfl) [] ⟨by decide, rfl⟩ rfl
end Go.Proofs.YtlplpmkdebemnaaGreat
namespace Go.Proofs.YtlplpmkdebemnaaGreat
set_option maxRecDepth 100000
open Go.RowKit Bv Fw
theorem aw_e : bpe 1 ((2 : Nat) : Int) = 0 := by decide
theorem aw_l : bpl 1 ((2 : Nat) : Int) = 64 := by decide
theorem aw_b : (bpb [(Rc.mk false 1#64 0#64 0#64)] ((2 : Nat) : Int)).length = 64 := by rw [bpb_len (n := 1) rfl]; decide
theorem aw_8 : ath (bpb [(Rc.mk false 1#64 0#64 0#64)] ((2 : Nat) : Int)) 8 = 1#8 := by decide +kernel
theorem aw_32 : ath (bpb [(Rc.mk false 1#64 0#64 0#64)] ((2 : Nat) : Int)) 32 = 1#8 := by decide +kernel
set_option maxHeartbeats 4000000 in
theorem awake10_f  (w : World) (hO : HOK [] w)  : Calls Tryz.prog 5 [].toArray w (Ret (T := Unit) [] w (fun _ => True) (fun _ => (.bool true)) (fun _ => [])) := by
 refine enter (c := _) Tryz.func5 rfl [] _ [] (by rw [Tryz.ntmps5]; rfl) (own_rds hO rfl) ?_
 rw [Tryz.ntmps5]
 refine lE [] ?_
 refine lH [] [] ?_
 refine lT ?_
 refine lS ?_
 refine lN ?_
 refine lO (pr_build (qs := [(1, (.int .i64 ((1 : Nat) : Int)))]) (v := .agg [(.bool false), (.int .i64 ((1 : Nat) : Int)), (.int .i64 ((0 : Nat) : Int)), (.int .i64 ((0 : Nat) : Int))].toArray) (fun _ => by kernel_rfl) rfl rfl) ?_
 refine L_op rfl (op_bslice (e := 37) (zs := [(.bool false), (.int .i64 ((1 : Nat) : Int)), (.int .i64 ((0 : Nat) : Int)), (.int .i64 ((0 : Nat) : Int))]) (qs := [(0, (.agg [(.bool false), (.int .i64 ((1 : Nat) : Int)), (.int .i64 ((0 : Nat) : Int)), (.int .i64 ((0 : Nat) : Int))].toArray))]) (fun _ => by kernel_rfl) rfl rfl rfl rfl (fun g1 => ?_))
 refine L_op rfl (op_cn (fun w hw => bpack_f [(Rc.mk false 1#64 0#64 0#64)] ((2 : Nat) : Int) (some ⟨g1, 0, none⟩) 1 1 w (hok_cons ((src_blk (z := 4) (ds := [(.bool false), (.int .i64 ((1 : Nat) : Int)), (.int .i64 ((0 : Nat) : Int)), (.int .i64 ((0 : Nat) : Int))]) 0 rfl rfl rfl sd sd) w hw) (hok_nil w)) sd sd) (enters_of Tryz.func13 kr rfl) rfl rfl rfl rfl rfl (fun t2 q3 => ?_))
 obtain ⟨B4, e5⟩ := t2
 refine lM ?_
 refine lO (pr_ext (vs := [(.slice B4 (bpl 1 ((2 : Nat) : Int)) e5), (.int .i64 (((bpe 1 ((2 : Nat) : Int)) : Nat) : Int))]) rfl rfl rfl) ?_
 refine T_as 0 _ (.row (.slice B4 64 e5) 5 1 64 ((bpb [(Rc.mk false 1#64 0#64 0#64)] ((2 : Nat) : Int)).map b8)) rfl (by rw [aw_l]) ?_
 refine T_slot 7 _ (.slice B4 64 e5) rfl (by rw [aw_l]) ?_
 have hab := aw_b
 refine lO (pr_ext (vs := [(.slice B4 (bpl 1 ((2 : Nat) : Int)) e5), (.int .i64 (((bpe 1 ((2 : Nat) : Int)) : Nat) : Int))]) rfl rfl rfl) ?_
 refine lS ?_
 refine lS ?_
 refine lN ?_
 refine lM ?_
 refine lO (pr_cmp (bo := .eql) (nc_eq (a := (bpe 1 ((2 : Nat) : Int))) (b := 0)) rfl rfl rfl rfl) ?_
 refine lM ?_
 refine T_slot 11 (.bool ((bpe 1 ((2 : Nat) : Int)) == 0)) (.bool true) rfl (congrArg _ (by rw [aw_e]; rfl)) ?_
 refine lM ?_
 refine lO (pr_len_sl Tryz.underlying27 rfl rfl) ?_
 refine lO (pr_cmp (bo := .eql) (nc_eq (a := 64) (b := 64)) rfl rfl rfl rfl) ?_
 refine lO (pr_pick_t rfl rfl rfl) ?_
 refine lM ?_
 refine lM ?_
 refine lO (pr_ixs1 (j := 8) (src_none (src_row 0 rfl)) sd Tryz.underlying27 kr rfl rfl rfl) ?_
 refine lQ (ld_src (m := 8) (src_row 0 rfl) (get8 sd) Tryz.underlying5 rfl rfl rfl) ?_
 refine lO (pr_cmp (bo := .eql) (n8_beq (ath (bpb [(Rc.mk false 1#64 0#64 0#64)] ((2 : Nat) : Int)) 8) (1#8)) rfl rfl rfl rfl) ?_
 refine lO (pr_pick_t rfl rfl rfl) ?_
 refine lM ?_
 refine T_slot 22 _ (.bool true) rfl (congrArg _ (by rw [aw_8]; rfl)) ?_
 refine lM ?_
 refine lO (pr_ixs1 (j := 32) (src_none (src_row 0 rfl)) sd Tryz.underlying27 kr rfl rfl rfl) ?_
 refine lQ (ld_src (m := 32) (src_row 0 rfl) (get8 sd) Tryz.underlying5 rfl rfl rfl) ?_
 refine lO (pr_cmp (bo := .eql) (n8_beq (ath (bpb [(Rc.mk false 1#64 0#64 0#64)] ((2 : Nat) : Int)) 32) (1#8)) rfl rfl rfl rfl) ?_
 refine lO (pr_pick_t rfl rfl rfl) ?_
 refine lM ?_
 refine T_slot 28 _ (.bool true) rfl (congrArg _ (by rw [aw_32]; rfl)) ?_
 refine L_op rfl (op_cn (fun w hw => bsize_f ((2 : Nat) : Int) w (hok_nil w) ) (enters_of Tryz.func12 kr rfl) rfl rfl rfl rfl rfl (fun t9 q10 => ?_))
 refine lO (pr_cmp (bo := .eql) (k := .i64) (a := (bsz ((2 : Nat) : Int))) (b := ((80 : Nat) : Int)) (c := ((bsz ((2 : Nat) : Int)) == ((80 : Nat) : Int))) rfl rfl rfl rfl rfl) ?_
 refine lO (pr_pick_t rfl rfl rfl) ?_
 refine lS ?_
 refine L_nil ?_
 refine T_ret ?_
 refine T_slot 0 (.bool ((bsz ((2 : Nat) : Int)) == ((80 : Nat) : Int))) (.bool true) rfl (by rfl) ?_
 exact T_fin () qN (res1 rfl rfl) [] ⟨by decide, rfl⟩ rfl
end Go.Proofs.YtlplpmkdebemnaaGreat
namespace Go.Proofs.YtlplpmkdebemnaaGreat
set_option maxRecDepth 100000
open Go.RowKit Bv Fw
set_option maxRecDepth 100000 in
set_option maxHeartbeats 4000000 in
theorem blockSeals_f (job : List (BitVec 8)) (pp : BitVec 64) (pr : BitVec 64) (pa : BitVec 64) (pt : BitVec 64) (pi : BitVec 64) (xs : List Rc) (A : Option Addr) (n : Nat) (c : Nat) (z : Int) (b : List (BitVec 8)) (B : Option Addr) (q : Nat) (e : Nat) (w : World) (hO : HOK [.rd A 4 n c (rcs xs), .rd B 1 q e (b.map b8)] w) (hj : job.length = 32) (hx : xs.length = n) (hb : b.length = q) : Calls Tryz.prog 3 [(.agg (job.map b8).toArray), (.agg [(.int .i64 (i64 pp)), (.int .i64 (i64 pr)), (.int .i64 (i64 pa)), (b64 pt), (.int .i64 (i64 pi))].toArray), (.slice A n c), (.int .i64 z), (.slice B q e)].toArray w (Ret (T := Unit) [] w (fun _ => True) (fun _ => (.bool true)) (fun _ => [])) := by
 have hol := bok_len job pp pr pa pt pi z b
 have hon := bon_le job pp pr pa pt pi z b
 refine enter (c := _) Tryz.func3 rfl [] _ [.rd A 4 n c (rcs xs), .rd B 1 q e (b.map b8)] (by rw [Tryz.ntmps3]; rfl) (own_rds hO rfl) ?_
 rw [Tryz.ntmps3]
 refine lE [(0, (.agg (job.map b8).toArray)), (1, (.agg [(.int .i64 (i64 pp)), (.int .i64 (i64 pr)), (.int .i64 (i64 pa)), (b64 pt), (.int .i64 (i64 pi))].toArray)), (2, (.slice A n c)), (3, (.int .i64 z)), (4, (.slice B q e))] ?_
 refine lH [0, 1] [.rd A 4 n c (rcs xs), .rd B 1 q e (b.map b8)] ?_
 refine lT ?_
 refine L_op rfl (op_box (zs := (job.map b8)) rfl rfl rfl rfl rfl (fun g1 => ?_))
 refine L_op rfl (op_box (zs := [(.int .i64 (i64 pp)), (.int .i64 (i64 pr)), (.int .i64 (i64 pa)), (b64 pt), (.int .i64 (i64 pi))]) rfl rfl rfl rfl rfl (fun g2 => ?_))
 refine lS ?_
 refine L_nil ?_
 refine T_seq ?_
 refine lT ?_
 refine lM ?_
 refine lO (pr_len_sl Tryz.underlying26 rfl rfl) ?_
 refine lO (pr_cmp (bo := .gtr) (nc_lt (a := 50) (b := n)) rfl rfl rfl rfl) ?_
 refine lM ?_
 rcases Bool.eq_false_or_eq_true (decide (50 < n)) with hc_3 | hc_3
 ·refine T_slot 22 (.bool (decide (50 < n))) (.bool true) rfl (congrArg _ hc_3) ?_
  refine T_slot 21 (.bool (decide (50 < n))) (.bool true) rfl (congrArg _ hc_3) ?_
  have hc_3 := of_decide_eq_true hc_3
  refine L_skip rfl rfl rfl ?_
  refine L_skip rfl rfl rfl ?_
  refine L_skip rfl rfl rfl ?_
  refine lO (pr_pick_t rfl rfl rfl) ?_
  refine L_nil ?_
  refine T_cond_t rfl ?_
  refine lT ?_
  refine L_op rfl (op_cn (fun w hw => awake10_f  w (hok_nil w) ) (enters_of Tryz.func5 kr rfl) rfl rfl rfl rfl rfl (fun t4 q5 => ?_))
  refine lS ?_
  refine L_nil ?_
  refine T_ret ?_
  exact T_fin () qN (res1 rfl rfl) [] ⟨by decide, rfl⟩ rfl
 refine T_slot 22 (.bool (decide (50 < n))) (.bool false) rfl (congrArg _ hc_3) ?_
 refine T_slot 21 (.bool (decide (50 < n))) (.bool false) rfl (congrArg _ hc_3) ?_
 have hc_3 := of_decide_eq_false hc_3
 refine lM ?_
 refine lO (pr_len_sl Tryz.underlying27 rfl rfl) ?_
 refine lO (pr_cmp (bo := .gtr) (nc_lt (a := 1000) (b := q)) rfl rfl rfl rfl) ?_
 refine lO (pr_pick_f rfl rfl rfl) ?_
 refine L_nil ?_
 refine T_cond (decide (1000 < q)) rfl (fun hc_6 => ?_) (fun hc_6 => ?_)
 ·have hc_6 := of_decide_eq_true hc_6
  refine lT ?_
  refine L_op rfl (op_cn (fun w hw => awake10_f  w (hok_nil w) ) (enters_of Tryz.func5 kr rfl) rfl rfl rfl rfl rfl (fun t7 q8 => ?_))
  refine lS ?_
  refine L_nil ?_
  refine T_ret ?_
  exact T_fin () qN (res1 rfl rfl) [] ⟨by decide, rfl⟩ rfl
 have hc_6 := of_decide_eq_false hc_6
 refine T_skip ?_
 refine lT ?_
 refine lQ (ld_agg (ds := (job.map b8)) 1 rfl agg_all Tryz.underlying22 rfl (fwz (n := 32) kr sd) rfl rfl) ?_
 refine lQ (ld_agg (ds := [(.int .i64 (i64 pp)), (.int .i64 (i64 pr)), (.int .i64 (i64 pa)), (b64 pt), (.int .i64 (i64 pi))]) 0 rfl agg_all Tryz.underlying25 rfl kr rfl rfl) ?_
 refine lM ?_
 refine lM ?_
 refine L_op rfl (op_cn (fun w hw => bsealA_f job pp pr pa pt pi xs A n c z w (hok_cons ((src_rd 2 rfl) w hw) (hok_nil w)) aS aS sd) (enters_of Tryz.func6 kr rfl) rfl rfl rfl rfl rfl (fun t9 q10 => ?_))
 obtain ⟨B11, d12⟩ := t9
 refine lM ?_
 refine lO (pr_ext (vs := [(.slice B11 (bsl n z) d12), (.int .i64 (((bpe n z) : Nat) : Int))]) rfl rfl rfl) ?_
 refine lO (pr_ext (vs := [(.slice B11 (bsl n z) d12), (.int .i64 (((bpe n z) : Nat) : Int))]) rfl rfl rfl) ?_
 refine lS ?_
 refine lS ?_
 refine lN ?_
 refine lQ (ld_agg (ds := (job.map b8)) 2 rfl agg_all Tryz.underlying22 rfl (fwz (n := 32) kr sd) rfl rfl) ?_
 refine lQ (ld_agg (ds := [(.int .i64 (i64 pp)), (.int .i64 (i64 pr)), (.int .i64 (i64 pa)), (b64 pt), (.int .i64 (i64 pi))]) 1 rfl agg_all Tryz.underlying25 rfl kr rfl rfl) ?_
 refine lM ?_
 refine lM ?_
 refine L_op rfl (op_cn (fun w hw => rbsealA_f job pp pr pa pt pi xs A n c z w (hok_cons ((src_rd 3 rfl) w hw) (hok_nil w)) aS aS sd) (enters_of Tryz.func7 kr rfl) rfl rfl rfl rfl rfl (fun t13 q14 => ?_))
 obtain ⟨B15, d16⟩ := t13
 refine lM ?_
 refine lO (pr_ext (vs := [(.slice B15 (bsl n z) d16), (.int .i64 (((bpe n z) : Nat) : Int))]) rfl rfl rfl) ?_
 refine lO (pr_ext (vs := [(.slice B15 (bsl n z) d16), (.int .i64 (((bpe n z) : Nat) : Int))]) rfl rfl rfl) ?_
 refine lS ?_
 refine lS ?_
 refine lN ?_
 refine lQ (ld_agg (ds := (job.map b8)) 3 rfl agg_all Tryz.underlying22 rfl (fwz (n := 32) kr sd) rfl rfl) ?_
 refine lQ (ld_agg (ds := [(.int .i64 (i64 pp)), (.int .i64 (i64 pr)), (.int .i64 (i64 pa)), (b64 pt), (.int .i64 (i64 pi))]) 2 rfl agg_all Tryz.underlying25 rfl kr rfl rfl) ?_
 refine lM ?_
 refine lM ?_
 refine L_op rfl (op_cn (fun w hw => bopenA_f job pp pr pa pt pi b B q e z w (hok_cons ((src_rd 5 rfl) w hw) (hok_nil w)) aS aS sd) (enters_of Tryz.func8 kr rfl) rfl rfl rfl rfl rfl (fun t17 q18 => ?_))
 obtain ⟨E19, e20⟩ := t17
 refine lM ?_
 refine lO (pr_ext (vs := [(.slice E19 (bon job pp pr pa pt pi z b) e20), (.int .i64 (((boe job pp pr pa pt pi z b) : Nat) : Int))]) rfl rfl rfl) ?_
 refine lO (pr_ext (vs := [(.slice E19 (bon job pp pr pa pt pi z b) e20), (.int .i64 (((boe job pp pr pa pt pi z b) : Nat) : Int))]) rfl rfl rfl) ?_
 refine lS ?_
 refine lS ?_
 refine lN ?_
 refine lQ (ld_agg (ds := (job.map b8)) 4 rfl agg_all Tryz.underlying22 rfl (fwz (n := 32) kr sd) rfl rfl) ?_
 refine lQ (ld_agg (ds := [(.int .i64 (i64 pp)), (.int .i64 (i64 pr)), (.int .i64 (i64 pa)), (b64 pt), (.int .i64 (i64 pi))]) 3 rfl agg_all Tryz.underlying25 rfl kr rfl rfl) ?_
 refine lM ?_
 refine lM ?_
 refine L_op rfl (op_cn (fun w hw => rbopenA_f job pp pr pa pt pi b B q e z w (hok_cons ((src_rd 6 rfl) w hw) (hok_nil w)) aS aS sd) (enters_of Tryz.func9 kr rfl) rfl rfl rfl rfl rfl (fun t21 q22 => ?_))
 obtain ⟨E23, e24⟩ := t21
 refine lM ?_
 refine lO (pr_ext (vs := [(.slice E23 (bon job pp pr pa pt pi z b) e24), (.int .i64 (((boe job pp pr pa pt pi z b) : Nat) : Int))]) rfl rfl rfl) ?_
 refine lO (pr_ext (vs := [(.slice E23 (bon job pp pr pa pt pi z b) e24), (.int .i64 (((boe job pp pr pa pt pi z b) : Nat) : Int))]) rfl rfl rfl) ?_
 refine lS ?_
 refine lS ?_
 refine lN ?_
 refine L_op rfl (op_cn (fun w hw => awake10_f  w (hok_nil w) ) (enters_of Tryz.func5 kr rfl) rfl rfl rfl rfl rfl (fun t25 q26 => ?_))
 refine lM ?_
 refine lM ?_
 refine lM ?_
 refine L_op rfl (op_cn (fun w hw => bytes_f (bsb job pp pr pa pt pi xs z) (bsb job pp pr pa pt pi xs z) B11 (bsl n z) d12 B15 (bsl n z) d16 w (hok_cons ((src_row 3 rfl) w hw) (hok_cons ((src_row 2 rfl) w hw) (hok_nil w))) ) (enters_of Tryz.func10 kr rfl) rfl rfl rfl rfl rfl (fun t27 q28 => ?_))
 refine lO (pr_pick_t rfl rfl rfl) ?_
 refine lM ?_
 refine T_slot 66 _ (.bool true) rfl (congrArg _ (by simp)) ?_
 refine lM ?_
 refine lM ?_
 refine lO (pr_cmp (bo := .eql) (nc_eq (a := (bpe n z)) (b := (bpe n z))) rfl rfl rfl rfl) ?_
 refine lO (pr_pick_t rfl rfl rfl) ?_
 refine lM ?_
 refine T_slot 71 (.bool ((bpe n z) == (bpe n z))) (.bool true) rfl (congrArg _ (by simp)) ?_
 refine lM ?_
 refine lM ?_
 refine L_op rfl (op_cn (fun w hw => rplain_f (bok job pp pr pa pt pi z b) E19 (bon job pp pr pa pt pi z b) e20 E23 e24 w (hok_cons ((src_row 1 rfl) w hw) (hok_cons ((src_row 0 rfl) w hw) (hok_nil w))) sd sd) (enters_of Tryz.func11 kr rfl) rfl rfl rfl rfl rfl (fun t31 q32 => ?_))
 refine lO (pr_pick_t rfl rfl rfl) ?_
 refine lM ?_
 refine lM ?_
 refine lM ?_
 refine lO (pr_cmp (bo := .eql) (nc_eq (a := (boe job pp pr pa pt pi z b)) (b := (boe job pp pr pa pt pi z b))) rfl rfl rfl rfl) ?_
 refine lO (pr_pick_t rfl rfl rfl) ?_
 refine lS ?_
 refine L_nil ?_
 refine T_ret ?_
 refine T_slot 10 _ (.bool true) rfl (by simp) ?_
 exact T_fin () qN (res1 rfl rfl) [] ⟨by decide, rfl⟩ rfl
end Go.Proofs.YtlplpmkdebemnaaGreat
namespace Go.Proofs.YtlplpmkdebemnaaGreat.blockSeals
open Fw Go.ChangeShapes Go.WideShapes Go.ChangeAt Go.RowKit Bv
open Go.ChangeMaps (open_string shut_string)
theorem own : ownKnob Tryz.prog.godebug = none := by kernel_rfl
theorem laidOut : laidOutB Tryz.prog = true := by kernel_rfl
set_option maxRecDepth 100000 in
theorem lifted (os : Os) (started : os.Started) (H : Type) (enc : TypeId × Value → H) :
    ReturnsInHanded {} Tryz.checked os 3 .any (Rows.blockSealsSpec.pre6 enc Tryz.prog Tryz.f3 Rows.blockSealsRow.domain false) (Rows.blockSealsSpec.post enc Tryz.prog Tryz.f3 false true false false) := by
  refine returnsInHanded_of_change (C := Tryz.checked) own started (by kernel_rfl) Tryz.func3
    (ChangeSpec.witness6 (enc := enc) (C := Tryz.checked) false ⟨#[], #[.agg (Array.replicate 32 (.int .u8 0)), .agg #[.int .i64 0, .int .i64 0, .int .i64 0, .int .u64 0, .int .i64 0], .slice none 0 0, .int .i64 0, .slice none 0 0], []⟩ 8 (by kernel_rfl) (by kernel_rfl) (by kernel_rfl) (by kernel_rfl)) ?_
  intro W base args ds gs before hval0 hW hcnd _
  have hval : ∀ (j : Nat) t v, Tryz.f3.params[j]? = some t → args[j]? = some v → Value.okWide Tryz.prog W .any base t v := hval0
  have hW' := hW
  obtain ⟨p, q, hA0, hV, rfl, hfz, hnd⟩ := hW
  have hA : DataW.TrodAll enc Tryz.prog W 0 (fun _ => true) true Tryz.f3.params.toList args.toList ds p := hA0
  rw [Tryz.params3] at hA hval
  obtain ⟨v0, vs0, d0, ds0, p0, q0, hargs, rfl, rfl, h0, r0⟩ := trodAll_cons hA
  obtain ⟨v1, vs1, d1, ds1, p1, q1, rfl, rfl, rfl, h1, r1⟩ := trodAll_cons r0
  obtain ⟨v2, vs2, d2, ds2, p2, q2, rfl, rfl, rfl, h2, r2⟩ := trodAll_cons r1
  obtain ⟨v3, vs3, d3, ds3, p3, q3, rfl, rfl, rfl, h3, r3⟩ := trodAll_cons r2
  obtain ⟨v4, vs4, d4, ds4, p4, q4, rfl, rfl, rfl, h4, r4⟩ := trodAll_cons r3
  obtain ⟨rfl, rfl, rfl⟩ := trodAll_nil r4
  obtain rfl : args = #[v0, v1, v2, v3, v4] := by cases args; simp_all
  obtain ⟨rfl, rfl⟩ := trodVars_none hV
  have k0 := h0
  have lt0 : ∀ x ∈ p0, x.block < W.heap.size := by obtain ⟨m, hm⟩ := k0; exact DataW.trod_lt m _ _ _ hm
  obtain ⟨fu0, hf0⟩ := h0
  obtain ⟨x0, hx0, rfl⟩ := open_arr (n := 32) n8 all8 Tryz.underlying22 Tryz.underlying5 (by kernel_rfl) (by kernel_rfl) (hval 0 22 v0 rfl rfl) hf0
  have k1 := h1
  have lt1 : ∀ x ∈ p1, x.block < W.heap.size := by obtain ⟨m, hm⟩ := k1; exact DataW.trod_lt m _ _ _ hm
  obtain ⟨fu1, hf1⟩ := h1
  obtain ⟨cs1, rfl, hl1, hs1⟩ := open_struct Tryz.underlying25 (hval 1 25 v1 rfl rfl) hf1
  have hl1 := hl1.trans (show _ = 5 by kernel_rfl)
  obtain ⟨c1_0, r1_0, rfl, hl1_0⟩ := cons_of hl1
  obtain ⟨c1_1, r1_1, rfl, hl1_1⟩ := cons_of hl1_0
  obtain ⟨c1_2, r1_2, rfl, hl1_2⟩ := cons_of hl1_1
  obtain ⟨c1_3, r1_3, rfl, hl1_3⟩ := cons_of hl1_2
  obtain ⟨c1_4, r1_4, rfl, hl1_4⟩ := cons_of hl1_3
  obtain rfl := List.length_eq_zero_iff.1 hl1_4
  obtain ⟨z1_0, rfl, w1_0⟩ := field_int hs1 0 rfl Tryz.underlying3 (by kernel_rfl) rfl
  obtain ⟨x1_0, rfl⟩ := exi64 w1_0
  obtain ⟨z1_1, rfl, w1_1⟩ := field_int hs1 1 rfl Tryz.underlying3 (by kernel_rfl) rfl
  obtain ⟨x1_1, rfl⟩ := exi64 w1_1
  obtain ⟨z1_2, rfl, w1_2⟩ := field_int hs1 2 rfl Tryz.underlying3 (by kernel_rfl) rfl
  obtain ⟨x1_2, rfl⟩ := exi64 w1_2
  obtain ⟨z1_3, rfl, w1_3⟩ := field_int hs1 3 rfl Tryz.underlying23 (by kernel_rfl) rfl
  obtain ⟨x1_3, rfl⟩ := ex64 w1_3
  obtain ⟨z1_4, rfl, w1_4⟩ := field_int hs1 4 rfl Tryz.underlying3 (by kernel_rfl) rfl
  obtain ⟨x1_4, rfl⟩ := exi64 w1_4
  clear hs1 hf1
  have k2 := h2
  have lt2 : ∀ x ∈ p2, x.block < W.heap.size := by obtain ⟨m, hm⟩ := k2; exact DataW.trod_lt m _ _ _ hm
  obtain ⟨A2, len2, cap2, rfl⟩ := okWide_slice Tryz.underlying26 (hval 2 26 v2 rfl rfl)
  obtain ⟨fu2, hf2⟩ := h2
  obtain ⟨x2, l2, w2⟩ := open_recs Tryz.underlying26 (by kernel_rfl) (rec_of Tryz.underlying37 rfl rfl rfl rfl rfl rfl rfl rfl Tryz.underlying4 Tryz.underlying2 Tryz.underlying2 Tryz.underlying2 (by kernel_rfl) (by kernel_rfl) (by kernel_rfl) (by kernel_rfl)) hf2
  obtain ⟨a3, rfl, rfl, rfl, w3⟩ := open_int Tryz.underlying3 (hval 3 3 v3 rfl rfl) h3
  obtain ⟨x3, rfl⟩ := exi64 w3
  have k4 := h4
  have lt4 : ∀ x ∈ p4, x.block < W.heap.size := by obtain ⟨m, hm⟩ := k4; exact DataW.trod_lt m _ _ _ hm
  obtain ⟨A4, len4, cap4, rfl⟩ := okWide_slice Tryz.underlying27 (hval 4 27 v4 rfl rfl)
  obtain ⟨fu4, hf4⟩ := h4
  obtain ⟨x4, l4, w4⟩ := open_rd n8 all8 Tryz.underlying27 Tryz.underlying5 (by kernel_rfl) hf4
  clear hA0 hval0
  have fin := blockSeals_f x0 x1_0 x1_1 x1_2 x1_3 x1_4 x2 A2 len2 cap2 (i64 x3) x4 A4 len4 cap4 W (hok_cons w2 (hok_cons w4 (hok_nil W))) hx0 l2 l4
  refine (law_of_ret fin).mono fun e W' ⟨he, bel⟩ => ?_
  subst he
  exact ⟨_, rfl, _, _, _, [], _, [], hW', trodAll_mk1 (shut_bool Tryz.underlying4 _), (trodAll_cons_mk (Below.trod laidOut (by kernel_rfl) (of_decide_eq_true (by kernel_rfl)) k0 bel lt0) (trodAll_cons_mk (Below.trod laidOut (by kernel_rfl) (of_decide_eq_true (by kernel_rfl)) k1 bel lt1) (trodAll_cons_mk (Below.trod laidOut (by kernel_rfl) (of_decide_eq_true (by kernel_rfl)) k2 bel lt2) (trodAll_cons_mk (shut_int Tryz.underlying3 w3) (trodAll_cons_mk (Below.trod laidOut (by kernel_rfl) (of_decide_eq_true (by kernel_rfl)) k4 bel lt4) trodAll_mk0))))), rfl, bel.frame _, fun h => by cases h⟩
theorem over : Rows.blockSealsRow.holds Tryz.pinned (OpenSpec.ofChange Rows.blockSealsSpec) :=
  OpenClaim.holds_of_wide 3 Tryz.f3 rfl rfl rfl rfl rfl rfl rfl ⟨rfl, rfl, rfl, rfl, rfl⟩ rfl rfl rfl rfl rfl (by kernel_rfl) Tryz.func3 (by kernel_rfl)
    (of_decide_eq_true (by kernel_rfl)) (by unfold Func.isWrapper; first | (rw [if_pos (by decide +kernel)]; kernel_rfl) | (rw [if_neg (by decide +kernel)]; exact ⟨rfl, rfl⟩))
    (fun os started H enc _ => lifted os started H enc)
theorem proved : Rows.BlockSealsSaid := over
#print axioms proved
end Go.Proofs.YtlplpmkdebemnaaGreat.blockSeals
