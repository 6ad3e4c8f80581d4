/- Walks by facts, part 4: what the functions that the law reaches answer. No conditions but lengths. -/
import Derived.Test.YtlplpmkdebemnaaGreatYBlockBack3
import Derived.Test.YtlplpmkdebemnaaGreatProg
set_option linter.unusedVariables false
set_option linter.unusedSimpArgs false
set_option linter.unnecessarySimpa false
namespace Go.Proofs.YtlplpmkdebemnaaGreat
set_option maxRecDepth 100000
open Go.RowKit Bv Fw
def chk (b : List (BitVec 8)) (k : Nat) : List (BitVec 8) := List.take 32 (List.drop (32 * k) b)
theorem chk_len {b : List (BitVec 8)} {n k q : Nat} (hb : b.length = n) (hn : n = 32 * q) (hk : k < q) : (chk b k).length = 32 := by unfold chk; rw [List.length_take, List.length_drop]; omega
def tke (b : List (BitVec 8)) : Nat → Nat
  | 0 => 0
  | k + 1 => if tke b k = 0 then rte (chk b k) else tke b k
def tks (b : List (BitVec 8)) : Nat → List Rc
  | 0 => []
  | k + 1 => tks b k ++ [rtk (chk b k)]
theorem tke_on {b : List (BitVec 8)} {k : Nat} (h : tke b k = 0) (h2 : rte (chk b k) = 0) : tke b (k + 1) = 0 := by rw [tke, if_pos h, h2]
theorem tke_stop {b : List (BitVec 8)} {k e : Nat} (h : tke b k = 0) (he : rte (chk b k) = e) (h2 : e ≠ 0) : ∀ m, k < m → tke b m = e
  | 0, hm => by omega
  | m + 1, hm => by
    by_cases hk : k = m
    · subst hk; rw [tke, if_pos h, he]
    · rw [tke, tke_stop h he h2 m oM, if_neg h2]
theorem tks_len (b : List (BitVec 8)) : ∀ k, (tks b k).length = k
  | 0 => rfl
  | k + 1 => by rw [tks, List.length_append, tks_len b k]; rfl
def bte (b : List (BitVec 8)) (z : Int) : Nat := if z < 1 ∨ 8 < z then 1 else if (b.length : Int) < z * 32 then 3 else if z * 32 < (b.length : Int) then 4 else tke b z.toNat
def btn (b : List (BitVec 8)) (z : Int) : Nat := if bte b z = 0 then z.toNat else 0
def btk (b : List (BitVec 8)) (z : Int) : List Rc := if bte b z = 0 then tks b z.toNat else []
theorem btk_len (b : List (BitVec 8)) (z : Int) : (btk b z).length = btn b z := by unfold btk btn; split <;> simp [tks_len]
theorem bte_arg {b : List (BitVec 8)} {z : Int} (h : z < 1 ∨ 8 < z) : bte b z = 1 := by unfold bte; rw [if_pos h]
theorem bte_short {b : List (BitVec 8)} {z : Int} (h1 : 1 ≤ z) (h2 : z ≤ 8) (h : (b.length : Int) < z * 32) : bte b z = 3 := by unfold bte; rw [if_neg oM, if_pos h]
theorem bte_long {b : List (BitVec 8)} {z : Int} (h1 : 1 ≤ z) (h2 : z ≤ 8) (h : z * 32 < (b.length : Int)) : bte b z = 4 := by unfold bte; rw [if_neg oM, if_neg oM, if_pos h]
theorem bte_ok {b : List (BitVec 8)} {z : Int} {q : Nat} (h1 : 1 ≤ z) (h2 : z ≤ 8) (h : z = (q : Int)) (hn : b.length = 32 * q) : bte b z = tke b q := by subst h; unfold bte; rw [if_neg oM, if_neg oM, if_neg oM]; rfl
theorem bte_err {b : List (BitVec 8)} {z : Int} {q k : Nat} (h1 : 1 ≤ z) (h2 : z ≤ 8) (h : z = (q : Int)) (hn : b.length = 32 * q) (hk : k < q) (h0 : tke b k = 0) (he : ¬ rte (chk b k) = 0) : bte b z = rte (chk b k) := by rw [bte_ok h1 h2 h hn]; exact tke_stop h0 rfl he q hk
theorem btn_no {b : List (BitVec 8)} {z : Int} (h : bte b z ≠ 0) : btn b z = 0 := by unfold btn; rw [if_neg h]
theorem btk_no {b : List (BitVec 8)} {z : Int} (h : bte b z ≠ 0) : btk b z = [] := by unfold btk; rw [if_neg h]
theorem btn_ok {b : List (BitVec 8)} {z : Int} {q : Nat} (h : bte b z = 0) (hz : z = (q : Int)) : btn b z = q := by subst hz; unfold btn; rw [if_pos h]; rfl
theorem btk_ok {b : List (BitVec 8)} {z : Int} {q : Nat} (h : bte b z = 0) (hz : z = (q : Int)) : btk b z = tks b q := by subst hz; unfold btk; rw [if_pos h]; rfl
set_option maxHeartbeats 4000000 in
theorem btake_f (b : List (BitVec 8)) (z : Int) (A : Option Addr) (n : Nat) (c : Nat) (w : World) (hO : HOK [.rd A 1 n c (b.map b8)] w) (hb : b.length = n) (hn : n ≤ 1000000) : Calls Tryz.prog 24 [(.slice A n c), (.int .i64 z)].toArray w (Ret (T := Option Addr × Nat) [] w (fun ⟨B, e⟩ => True) (fun ⟨B, e⟩ => (.tuple [(.slice B (btn b z) e), (.int .i64 (((bte b z) : Nat) : Int))].toArray)) (fun ⟨B, e⟩ => [.row (.slice B (btn b z) e) 37 4 (btn b z) (rcs (btk b z))])) := by
 have hF : Wid Fence.wide := wid_wide
 refine enter_m (c := _) Tryz.func24 rfl [] _ [.rd A 1 n c (b.map b8)] (by rw [Tryz.ntmps24]; rfl) (own_rds hO rfl) ?_
 rw [Tryz.ntmps24]
 refine lE [(0, (.slice A n c)), (1, (.int .i64 z))] ?_
 refine lH [0] [.rd A 1 n c (b.map b8)] ?_
 refine lT ?_
 refine L_op rfl (op_alloc (z := (.slice none 0 0)) (zs := [(.slice none 0 0)]) kr rfl rfl rfl rfl (fun g1 => ?_))
 refine L_op rfl (op_alloc (z := (.int .i64 ((0 : Nat) : Int))) (zs := [(.int .i64 ((0 : Nat) : Int))]) kr rfl rfl rfl rfl (fun g2 => ?_))
 refine L_nil ?_
 refine T_seq ?_
 refine T_block ?_
 refine lT ?_
 refine lM ?_
 refine L_op rfl (op_cn (fun w hw => may_f z w (hok_nil w) ) (enters_of Tryz.func22 kr rfl) rfl rfl rfl rfl rfl (fun t3 q4 => ?_))
 refine lO (pr_un rfl rfl rfl) ?_
 refine lS ?_
 refine L_nil ?_
 refine T_cond (!(mayb z)) rfl (fun hc_5 => ?_) (fun hc_5 => ?_)
 ·refine lT ?_
  refine L_op rfl (op_store (vs := [(.slice none 0 0)]) (cs' := [(.slice none 0 0)]) 1 rfl rfl kr (one_one rfl) (by decide) rfl rfl rfl rfl rfl ?_)
  refine L_op rfl (op_store (vs := [(.int .i64 ((1 : Nat) : Int))]) (cs' := [(.int .i64 ((1 : Nat) : Int))]) 1 rfl rfl kr (one_one rfl) (by decide) rfl rfl rfl rfl rfl ?_)
  refine L_nil ?_
  refine T_ret ?_
  refine T_as 1 _ (.blk g1 26 [(.slice none (btn b z) 0)]) rfl (by rw [btn_no (by rw [bte_arg (mayb_f aS)]; decide)]) ?_
  refine T_as 1 _ (.blk g2 29 [(.int .i64 (((bte b z) : Nat) : Int))]) rfl (by rw [bte_arg (mayb_f aS)]) ?_
  refine T_nilrow 37 4 ?_
  refine T_as 0 _ (.row (.slice none (btn b z) 0) 37 4 (btn b z) (rcs (btk b z))) rfl (by rw [btn_no (by rw [bte_arg (mayb_f aS)]; decide), btk_no (by rw [bte_arg (mayb_f aS)]; decide)]; rfl) ?_
  exact T_finM0 (none, 0) qN (rescc 2 1 rfl rfl rfl rfl rfl Tryz.underlying26 rfl Tryz.underlying29 rfl) [0] ⟨by decide, rfl⟩ rfl
 refine lT ?_
 refine lM ?_
 obtain ⟨hz1, hz2⟩ := mayb_t (z := z) aS
 refine lO (pr_len_sl Tryz.underlying27 rfl rfl) ?_
 refine lM ?_
 refine lO (pr_mul (zw_i64 (z := (z * ((32 : Nat) : Int))) sd) rfl rfl rfl) ?_
 refine lO (pr_cmp (bo := .lss) (k := .i64) (a := ((n : Nat) : Int)) (b := (z * ((32 : Nat) : Int))) (c := decide (((n : Nat) : Int) < (z * ((32 : Nat) : Int)))) rfl rfl rfl rfl rfl) ?_
 refine lS ?_
 refine L_nil ?_
 refine T_cond (decide (((n : Nat) : Int) < (z * ((32 : Nat) : Int)))) rfl (fun hc_6 => ?_) (fun hc_6 => ?_)
 ·have hc_6 := of_decide_eq_true hc_6
  refine lT ?_
  refine L_op rfl (op_store (vs := [(.slice none 0 0)]) (cs' := [(.slice none 0 0)]) 1 rfl rfl kr (one_one rfl) (by decide) rfl rfl rfl rfl rfl ?_)
  refine L_op rfl (op_store (vs := [(.int .i64 ((3 : Nat) : Int))]) (cs' := [(.int .i64 ((3 : Nat) : Int))]) 1 rfl rfl kr (one_one rfl) (by decide) rfl rfl rfl rfl rfl ?_)
  refine L_nil ?_
  refine T_ret ?_
  refine T_as 1 _ (.blk g1 26 [(.slice none (btn b z) 0)]) rfl (by rw [btn_no (by rw [bte_short hz1 hz2 oM]; decide)]) ?_
  refine T_as 1 _ (.blk g2 29 [(.int .i64 (((bte b z) : Nat) : Int))]) rfl (by rw [bte_short hz1 hz2 oM]) ?_
  refine T_nilrow 37 4 ?_
  refine T_as 0 _ (.row (.slice none (btn b z) 0) 37 4 (btn b z) (rcs (btk b z))) rfl (by rw [btn_no (by rw [bte_short hz1 hz2 oM]; decide), btk_no (by rw [bte_short hz1 hz2 oM]; decide)]; rfl) ?_
  exact T_finM0 (none, 0) qN (rescc 2 1 rfl rfl rfl rfl rfl Tryz.underlying26 rfl Tryz.underlying29 rfl) [0] ⟨by decide, rfl⟩ rfl
 have hc_6 := of_decide_eq_false hc_6
 refine lT ?_
 refine lM ?_
 refine lO (pr_len_sl Tryz.underlying27 rfl rfl) ?_
 refine lM ?_
 refine lO (pr_mul (zw_i64 (z := (z * ((32 : Nat) : Int))) sd) rfl rfl rfl) ?_
 refine lO (pr_cmp (bo := .gtr) (k := .i64) (a := ((n : Nat) : Int)) (b := (z * ((32 : Nat) : Int))) (c := decide ((z * ((32 : Nat) : Int)) < ((n : Nat) : Int))) rfl rfl rfl rfl rfl) ?_
 refine lS ?_
 refine L_nil ?_
 refine T_cond (decide ((z * ((32 : Nat) : Int)) < ((n : Nat) : Int))) rfl (fun hc_7 => ?_) (fun hc_7 => ?_)
 ·have hc_7 := of_decide_eq_true hc_7
  refine lT ?_
  refine L_op rfl (op_store (vs := [(.slice none 0 0)]) (cs' := [(.slice none 0 0)]) 1 rfl rfl kr (one_one rfl) (by decide) rfl rfl rfl rfl rfl ?_)
  refine L_op rfl (op_store (vs := [(.int .i64 ((4 : Nat) : Int))]) (cs' := [(.int .i64 ((4 : Nat) : Int))]) 1 rfl rfl kr (one_one rfl) (by decide) rfl rfl rfl rfl rfl ?_)
  refine L_nil ?_
  refine T_ret ?_
  refine T_as 1 _ (.blk g1 26 [(.slice none (btn b z) 0)]) rfl (by rw [btn_no (by rw [bte_long hz1 hz2 oM]; decide)]) ?_
  refine T_as 1 _ (.blk g2 29 [(.int .i64 (((bte b z) : Nat) : Int))]) rfl (by rw [bte_long hz1 hz2 oM]) ?_
  refine T_nilrow 37 4 ?_
  refine T_as 0 _ (.row (.slice none (btn b z) 0) 37 4 (btn b z) (rcs (btk b z))) rfl (by rw [btn_no (by rw [bte_long hz1 hz2 oM]; decide), btk_no (by rw [bte_long hz1 hz2 oM]; decide)]; rfl) ?_
  exact T_finM0 (none, 0) qN (rescc 2 1 rfl rfl rfl rfl rfl Tryz.underlying26 rfl Tryz.underlying29 rfl) [0] ⟨by decide, rfl⟩ rfl
 have hc_7 := of_decide_eq_false hc_7
 refine T_skip ?_
 refine lT ?_
 refine L_op rfl (op_alloc (z := (.slice none 0 0)) (zs := [(.slice none 0 0)]) kr rfl rfl rfl rfl (fun g8 => ?_))
 obtain ⟨q, hzq⟩ : ∃ q : Nat, z = (q : Int) := ⟨z.toNat, by omega⟩
 have hnq : n = 32 * q := by omega
 refine L_nil ?_
 refine T_seq ?_
 refine lT ?_
 refine lM ?_
 refine L_op rfl (op_cn (fun w hw => chunk_f A n c 32 w (hok_nil w) sd) (enters_of Tryz.func45 kr rfl) rfl rfl rfl rfl rfl (fun t9 q10 => ?_))
 obtain ⟨g1_11, g2_12⟩ := t9
 refine L_nil ?_
 refine T_block ?_
 refine T_tord 0 rfl ?_
 refine T_tord 1 rfl ?_
 refine T_nilrow 37 4 ?_
 refine T_as 0 _ (.row (.slice none 0 0) 37 4 0 (rcs (tks b 0))) rfl (by rfl) ?_
 refine T_rangeR (Θ := Option Addr) (T := Option Addr × Nat) (Tx := Nat) (cap := [(.pointer (some ⟨g1_11, 0, none⟩)), (.pointer (some ⟨g2_12, 0, none⟩))]) (ps := [28]) (chunk_seq b 32 A n c g1_11 g2_12 sd sd sd sd) rfl (enters_of Tryz.func67 kr rfl) (fun k ⟨A1, c1⟩ => k ≤ q ∧ tke b k = 0) (fun k ⟨A1, c1⟩ => [.row (.slice A1 k c1) 37 4 k (rcs (tks b k)), .rd (some ⟨g1_11, 0, none⟩) 1 1 1 [(.slice A n c)], .blk g8 26 [(.slice A1 k c1)], .blk g2 29 [(.int .i64 ((0 : Nat) : Int))], .blk g1 26 [(.slice none 0 0)], .rd A 1 n c (b.map b8)]) (fun er => ¬ er = 0 ∧ bte b z = er) (fun er => [.blk g1 26 [(.slice none 0 0)], .blk g2 29 [(.int .i64 ((er : Nat) : Int))]])  (none, 0) (⟨by omega, rfl⟩) [0, 2, 3, 4, 5, 6] ⟨by decide, rfl⟩ [2, 1, 6] rfl rfl (fun _ _ => rfl) (fun _ => rfl) (fun _ _ => rfl) (fun _ _ => rfl) rfl (fun _ => trivial) ?_ ?_ ?_
 ·intro C2 w2 lo2 rs2 l D m k t th rc hrec hk hp
  obtain ⟨A1, c1⟩ := t
  obtain ⟨B, rfl⟩ : ∃ x, x = th := ⟨_, rfl⟩
  have hp : k ≤ q ∧ tke b k = 0 := hp
  have hk : k < (n + 32 - 1) / 32 := hk
  have hmin : min 32 (n - 32 * k) = 32 := by omega
  have hkq : k < q := by omega
  have hcl := chk_len hb hnq hkq
  have hF : Wid (Fence.wide.inRound l) := wid_round l
  refine lE [(4, (.pointer (some ⟨g1, 0, none⟩))), (5, (.pointer (some ⟨g2, 0, none⟩))), (6, (.pointer (some ⟨g8, 0, none⟩))), (28, (.slice B (min 32 (n - 32 * k)) (min 32 (n - 32 * k))))] ?_
  refine lH [0, 1, 2, 3, 4, 5, 6, 7, 8] [.rd B 1 (min 32 (n - 32 * k)) (min 32 (n - 32 * k)) ((List.take (min 32 (n - 32 * k)) (List.drop (32 * k) b)).map b8), .obj l (.loop rc), .obj D (.deferred (some [])), .row (.slice A1 k c1) 37 4 k (rcs (tks b k)), .rd (some ⟨g1_11, 0, none⟩) 1 1 1 [(.slice A n c)], .blk g8 26 [(.slice A1 k c1)], .blk g2 29 [(.int .i64 ((0 : Nat) : Int))], .blk g1 26 [(.slice none 0 0)], .rd A 1 n c (b.map b8)] ?_
  refine T_slot 28 (.slice B (min 32 (n - 32 * k)) (min 32 (n - 32 * k))) (.slice B 32 32) rfl (by rw [hmin]) ?_
  refine T_as 0 _ (.rd B 1 32 32 ((chk b k).map b8)) rfl (by rw [hmin]; rfl) ?_
  refine lR ?_
  refine lS ?_
  refine L_nil ?_
  refine T_begun 1 rfl hrec ?_
  refine T_block ?_
  refine lT ?_
  refine lM ?_
  refine L_op rfl (op_cn (fun w hw => rtake_f (chk b k) B 32 32 w (hok_cons ((src_rd 1 rfl) w hw) (hok_nil w)) sd sd) (enters_of Tryz.func46 kr rfl) rfl rfl rfl rfl rfl (fun t13 q14 => ?_))
  refine lM ?_
  refine lO (pr_ext (vs := [(.agg [(.bool ((rtk (chk b k)).d)), (.int .i64 (i64 (rtk (chk b k)).k)), (.int .i64 (i64 (rtk (chk b k)).v)), (.int .i64 (i64 (rtk (chk b k)).s))].toArray), (.int .i64 (((rte (chk b k)) : Nat) : Int))]) rfl rfl rfl) ?_
  refine lO (pr_ext (vs := [(.agg [(.bool ((rtk (chk b k)).d)), (.int .i64 (i64 (rtk (chk b k)).k)), (.int .i64 (i64 (rtk (chk b k)).v)), (.int .i64 (i64 (rtk (chk b k)).s))].toArray), (.int .i64 (((rte (chk b k)) : Nat) : Int))]) rfl rfl rfl) ?_
  refine L_op rfl (op_alloc (z := .agg [(.bool false), (.int .i64 ((0 : Nat) : Int)), (.int .i64 ((0 : Nat) : Int)), (.int .i64 ((0 : Nat) : Int))].toArray) (zs := [(.bool false), (.int .i64 ((0 : Nat) : Int)), (.int .i64 ((0 : Nat) : Int)), (.int .i64 ((0 : Nat) : Int))]) kr rfl rfl rfl rfl (fun g15 => ?_))
  refine L_op rfl (op_sto (n := 4) (vs := [(.bool ((rtk (chk b k)).d)), (.int .i64 (i64 (rtk (chk b k)).k)), (.int .i64 (i64 (rtk (chk b k)).v)), (.int .i64 (i64 (rtk (chk b k)).s))]) 0 rfl rfl kr (by simp [Value.oneCell']) kr kr rfl rfl rfl rfl ?_)
  refine lS ?_
  refine L_nil ?_
  refine T_seq ?_
  refine lT ?_
  refine lM ?_
  refine lO (pr_cmp (bo := .neq) (nc_ne (a := (rte (chk b k))) (b := 0)) rfl rfl rfl rfl) ?_
  refine L_nil ?_
  refine T_cond ((rte (chk b k)) != 0) rfl (fun hc_16 => ?_) (fun hc_16 => ?_)
  ·have hc_16 : ¬ (rte (chk b k)) = 0 := by simpa using hc_16
   refine lT ?_
   refine lM ?_
   refine L_op rfl (op_store (vs := [(.slice none 0 0)]) (cs' := [(.slice none 0 0)]) 8 rfl rfl kr (one_one rfl) (by decide) rfl rfl rfl rfl rfl ?_)
   refine L_op rfl (op_store (vs := [(.int .i64 (((rte (chk b k)) : Nat) : Int))]) (cs' := [(.int .i64 (((rte (chk b k)) : Nat) : Int))]) 8 rfl rfl kr (one_one rfl) (by simp) rfl rfl rfl rfl rfl ?_)
   refine L_nil ?_
   refine T_ret ?_
   exact T_on (rte (chk b k)) (⟨by assumption, bte_err hz1 hz2 hzq oM hkq hp.2 aS⟩) [3, 5, 1, 0] ⟨by decide, rfl⟩
  have hc_16 : (rte (chk b k)) = 0 := by simpa using hc_16
  refine T_skip ?_
  refine lR ?_
  refine lQ (ld_blk 6 rfl rfl Tryz.underlying26 rfl rfl rfl) ?_
  refine lQ (ld_agg (ds := [(.bool ((rtk (chk b k)).d)), (.int .i64 (i64 (rtk (chk b k)).k)), (.int .i64 (i64 (rtk (chk b k)).v)), (.int .i64 (i64 (rtk (chk b k)).s))]) 0 rfl agg_all Tryz.underlying37 rfl kr rfl rfl) ?_
  refine L_op rfl (op_bslice (e := 37) (zs := [(.bool ((rtk (chk b k)).d)), (.int .i64 (i64 (rtk (chk b k)).k)), (.int .i64 (i64 (rtk (chk b k)).v)), (.int .i64 (i64 (rtk (chk b k)).s))]) (qs := [(0, (.agg [(.bool ((rtk (chk b k)).d)), (.int .i64 (i64 (rtk (chk b k)).k)), (.int .i64 (i64 (rtk (chk b k)).v)), (.int .i64 (i64 (rtk (chk b k)).s))].toArray))]) (fun _ => by kernel_rfl) rfl rfl rfl rfl (fun g17 => ?_))
  refine L_op rfl (op_append (z := .agg [(.bool false), (.int .i64 ((0 : Nat) : Int)), (.int .i64 ((0 : Nat) : Int)), (.int .i64 ((0 : Nat) : Int))].toArray) (size := 4) (bytes := 32) 5 rfl Tryz.underlying26 kr kr (by decide) (src_blk (z := 4) (ds := [(.bool ((rtk (chk b k)).d)), (.int .i64 (i64 (rtk (chk b k)).k)), (.int .i64 (i64 (rtk (chk b k)).v)), (.int .i64 (i64 (rtk (chk b k)).s))]) 0 rfl rfl rfl sd sd) (by simp [Value.oneCell']) sd sd rfl rfl rfl rfl rfl (fun A18 C19 => ?_))
  refine T_as 0 _ (.row (.slice A18 (k + 1) C19) 37 4 (k + 1) (rcs ((tks b k) ++ [(Rc.mk ((rtk (chk b k)).d) ((rtk (chk b k)).k) ((rtk (chk b k)).v) ((rtk (chk b k)).s))]))) rfl (by rw [rcs_app]; rfl) ?_
  refine L_op rfl (op_store (vs := [(.slice A18 (k + 1) C19)]) (cs' := [(.slice A18 (k + 1) C19)]) 7 rfl rfl kr (one_one rfl) (by simp) rfl rfl rfl rfl rfl ?_)
  refine L_nil ?_
  refine T_as 1 _ (.row (.slice A18 (k + 1) C19) 37 4 (k + 1) (rcs (tks b (k + 1)))) rfl (by rfl) ?_
  exact T_on (A18, C19) (⟨by omega, tke_on hp.2 aS⟩) [4, 6, 0, 7, 1, 8, 9, 10] ⟨by decide, rfl⟩
 ·intro D t hp
  obtain ⟨A1, c1⟩ := t
  have hp : ((n + 32 - 1) / 32) ≤ q ∧ tke b ((n + 32 - 1) / 32) = 0 := hp
  have hnv : (n + 32 - 1) / 32 = q := by omega
  have htz : tke b q = 0 := hnv ▸ hp.2
  refine lE [(4, (.pointer (some ⟨g1, 0, none⟩))), (5, (.pointer (some ⟨g2, 0, none⟩))), (6, (.pointer (some ⟨g8, 0, none⟩)))] ?_
  refine lH [0, 1, 2, 3, 4, 5, 6] [.obj D (.deferred (some [])), .row (.slice A1 ((n + 32 - 1) / 32) c1) 37 4 ((n + 32 - 1) / 32) (rcs (tks b ((n + 32 - 1) / 32))), .rd (some ⟨g1_11, 0, none⟩) 1 1 1 [(.slice A n c)], .blk g8 26 [(.slice A1 ((n + 32 - 1) / 32) c1)], .blk g2 29 [(.int .i64 ((0 : Nat) : Int))], .blk g1 26 [(.slice none 0 0)], .rd A 1 n c (b.map b8)] ?_
  refine T_as 1 _ (.row (.slice A1 q c1) 37 4 q (rcs (tks b q))) rfl (by rw [hnv]) ?_
  refine T_as 3 _ (.blk g8 26 [(.slice A1 q c1)]) rfl (by rw [hnv]) ?_
  refine lT ?_
  refine lQ (ld_blk 0 rfl rfl Tryz.underlying26 rfl rfl rfl) ?_
  refine L_op rfl (op_store (vs := [(.slice A1 q c1)]) (cs' := [(.slice A1 q c1)]) 5 rfl rfl kr (one_one rfl) (by simp) rfl rfl rfl rfl rfl ?_)
  refine L_op rfl (op_store (vs := [(.int .i64 ((0 : Nat) : Int))]) (cs' := [(.int .i64 ((0 : Nat) : Int))]) 5 rfl rfl kr (one_one rfl) (by decide) rfl rfl rfl rfl rfl ?_)
  refine L_nil ?_
  refine T_ret ?_
  refine T_as 1 _ (.blk g1 26 [(.slice A1 (btn b z) c1)]) rfl (by rw [btn_ok ((bte_ok hz1 hz2 hzq oM).trans htz) hzq]) ?_
  refine T_as 1 _ (.blk g2 29 [(.int .i64 (((bte b z) : Nat) : Int))]) rfl (by rw [(bte_ok hz1 hz2 hzq oM).trans htz]) ?_
  refine T_as 3 _ (.row (.slice A1 (btn b z) c1) 37 4 (btn b z) (rcs (btk b z))) rfl (by rw [btn_ok ((bte_ok hz1 hz2 hzq oM).trans htz) hzq, btk_ok ((bte_ok hz1 hz2 hzq oM).trans htz) hzq]) ?_
  exact T_finM 4 rfl (A1, c1) qN (rescc 2 1 rfl rfl rfl rfl rfl Tryz.underlying26 rfl Tryz.underlying29 rfl) [0] ⟨by decide, rfl⟩ rfl
 intro D t hq
 obtain ⟨er, rfl⟩ : ∃ x, x = t := ⟨_, rfl⟩
 have hq : ¬ er = 0 ∧ bte b z = er := hq
 obtain ⟨he1, he2⟩ := hq
 refine T_ret ?_
 refine lE [(4, (.pointer (some ⟨g1, 0, none⟩))), (5, (.pointer (some ⟨g2, 0, none⟩)))] ?_
 refine lH [0, 1, 2] [.obj D (.deferred (some [])), .blk g1 26 [(.slice none 0 0)], .blk g2 29 [(.int .i64 ((er : Nat) : Int))]] ?_
 refine T_as 1 _ (.blk g1 26 [(.slice none (btn b z) 0)]) rfl (by rw [btn_no (by rw [he2]; assumption)]) ?_
 refine T_as 2 _ (.blk g2 29 [(.int .i64 (((bte b z) : Nat) : Int))]) rfl (by rw [he2]) ?_
 refine T_nilrow 37 4 ?_
 refine T_as 0 _ (.row (.slice none (btn b z) 0) 37 4 (btn b z) (rcs (btk b z))) rfl (by rw [btn_no (by rw [he2]; assumption), btk_no (by rw [he2]; assumption)]; rfl) ?_
 exact T_finM 3 rfl (none, 0) qN (rescc 2 1 rfl rfl rfl rfl rfl Tryz.underlying26 rfl Tryz.underlying29 rfl) [0] ⟨by decide, rfl⟩ rfl
set_option maxHeartbeats 4000000 in
theorem rbtake_f (b : List (BitVec 8)) (z : Int) (A : Option Addr) (n : Nat) (c : Nat) (w : World) (hO : HOK [.rd A 1 n c (b.map b8)] w) (hb : b.length = n) (hn : n ≤ 1000000) : Calls Tryz.prog 27 [(.slice A n c), (.int .i64 z)].toArray w (Ret (T := Option Addr × Nat) [] w (fun ⟨B, e⟩ => True) (fun ⟨B, e⟩ => (.tuple [(.slice B (btn b z) e), (.int .i64 (((bte b z) : Nat) : Int))].toArray)) (fun ⟨B, e⟩ => [.row (.slice B (btn b z) e) 37 4 (btn b z) (rcs (btk b z))])) := by
 refine enter (c := _) Tryz.func27 rfl [] _ [.rd A 1 n c (b.map b8)] (by rw [Tryz.ntmps27]; rfl) (own_rds hO rfl) ?_
 rw [Tryz.ntmps27]
 refine lE [(0, (.slice A n c)), (1, (.int .i64 z))] ?_
 refine lH [0] [.rd A 1 n c (b.map b8)] ?_
 refine lT ?_
 refine lS ?_
 refine lS ?_
 refine L_nil ?_
 refine T_seq ?_
 refine T_block ?_
 refine lT ?_
 refine lM ?_
 refine L_op rfl (op_cn (fun w hw => rmay_f z w (hok_nil w) ) (enters_of Tryz.func25 kr rfl) rfl rfl rfl rfl rfl (fun t1 q2 => ?_))
 refine lO (pr_un rfl rfl rfl) ?_
 refine lS ?_
 refine L_nil ?_
 refine T_cond (!(mayb z)) rfl (fun hc_3 => ?_) (fun hc_3 => ?_)
 ·refine lT ?_
  refine lS ?_
  refine lS ?_
  refine L_nil ?_
  refine T_ret ?_
  refine T_slot 4 (.slice none 0 0) (.slice none (btn b z) 0) rfl (by rw [btn_no (by rw [bte_arg (mayb_f aS)]; decide)]) ?_
  refine T_slot 5 (.int .i64 ((1 : Nat) : Int)) (.int .i64 (((bte b z) : Nat) : Int)) rfl (by rw [bte_arg (mayb_f aS)]) ?_
  refine T_nilrow 37 4 ?_
  refine T_as 0 _ (.row (.slice none (btn b z) 0) 37 4 (btn b z) (rcs (btk b z))) rfl (by rw [btn_no (by rw [bte_arg (mayb_f aS)]; decide), btk_no (by rw [bte_arg (mayb_f aS)]; decide)]; rfl) ?_
  exact T_fin (none, 0) qN (res2 rfl rfl rfl) [0] ⟨by decide, rfl⟩ rfl
 refine lT ?_
 refine lM ?_
 obtain ⟨hz1, hz2⟩ := mayb_t (z := z) aS
 refine lO (pr_len_sl Tryz.underlying27 rfl rfl) ?_
 refine lM ?_
 refine lO (pr_mul (zw_i64 (z := (((32 : Nat) : Int) * z)) sd) rfl rfl rfl) ?_
 refine lO (pr_cmp (bo := .lss) (k := .i64) (a := ((n : Nat) : Int)) (b := (((32 : Nat) : Int) * z)) (c := decide (((n : Nat) : Int) < (((32 : Nat) : Int) * z))) rfl rfl rfl rfl rfl) ?_
 refine lS ?_
 refine L_nil ?_
 refine T_cond (decide (((n : Nat) : Int) < (((32 : Nat) : Int) * z))) rfl (fun hc_4 => ?_) (fun hc_4 => ?_)
 ·have hc_4 := of_decide_eq_true hc_4
  refine lT ?_
  refine lS ?_
  refine lS ?_
  refine L_nil ?_
  refine T_ret ?_
  refine T_slot 4 (.slice none 0 0) (.slice none (btn b z) 0) rfl (by rw [btn_no (by rw [bte_short hz1 hz2 oM]; decide)]) ?_
  refine T_slot 5 (.int .i64 ((3 : Nat) : Int)) (.int .i64 (((bte b z) : Nat) : Int)) rfl (by rw [bte_short hz1 hz2 oM]) ?_
  refine T_nilrow 37 4 ?_
  refine T_as 0 _ (.row (.slice none (btn b z) 0) 37 4 (btn b z) (rcs (btk b z))) rfl (by rw [btn_no (by rw [bte_short hz1 hz2 oM]; decide), btk_no (by rw [bte_short hz1 hz2 oM]; decide)]; rfl) ?_
  exact T_fin (none, 0) qN (res2 rfl rfl rfl) [0] ⟨by decide, rfl⟩ rfl
 have hc_4 := of_decide_eq_false hc_4
 refine lT ?_
 refine lM ?_
 refine lO (pr_len_sl Tryz.underlying27 rfl rfl) ?_
 refine lM ?_
 refine lO (pr_mul (zw_i64 (z := (((32 : Nat) : Int) * z)) sd) rfl rfl rfl) ?_
 refine lO (pr_cmp (bo := .gtr) (k := .i64) (a := ((n : Nat) : Int)) (b := (((32 : Nat) : Int) * z)) (c := decide ((((32 : Nat) : Int) * z) < ((n : Nat) : Int))) rfl rfl rfl rfl rfl) ?_
 refine lS ?_
 refine L_nil ?_
 refine T_cond (decide ((((32 : Nat) : Int) * z) < ((n : Nat) : Int))) rfl (fun hc_5 => ?_) (fun hc_5 => ?_)
 ·have hc_5 := of_decide_eq_true hc_5
  refine lT ?_
  refine lS ?_
  refine lS ?_
  refine L_nil ?_
  refine T_ret ?_
  refine T_slot 4 (.slice none 0 0) (.slice none (btn b z) 0) rfl (by rw [btn_no (by rw [bte_long hz1 hz2 oM]; decide)]) ?_
  refine T_slot 5 (.int .i64 ((4 : Nat) : Int)) (.int .i64 (((bte b z) : Nat) : Int)) rfl (by rw [bte_long hz1 hz2 oM]) ?_
  refine T_nilrow 37 4 ?_
  refine T_as 0 _ (.row (.slice none (btn b z) 0) 37 4 (btn b z) (rcs (btk b z))) rfl (by rw [btn_no (by rw [bte_long hz1 hz2 oM]; decide), btk_no (by rw [bte_long hz1 hz2 oM]; decide)]; rfl) ?_
  exact T_fin (none, 0) qN (res2 rfl rfl rfl) [0] ⟨by decide, rfl⟩ rfl
 have hc_5 := of_decide_eq_false hc_5
 refine T_skip ?_
 refine lT ?_
 refine lS ?_
 obtain ⟨q, hzq⟩ : ∃ q : Nat, z = (q : Int) := ⟨z.toNat, by omega⟩
 have hnq : n = 32 * q := by omega
 refine T_slot 1 (.int .i64 z) (.int .i64 ((q : Nat) : Int)) rfl (by rw [hzq]) ?_
 refine L_nil ?_
 refine T_seq ?_
 refine lT ?_
 refine lS ?_
 refine L_nil ?_
 refine T_block ?_
 refine T_nilrow 37 4 ?_
 refine T_as 0 _ (.row (.slice none 0 0) 37 4 0 (rcs (tks b 0))) rfl (by rfl) ?_
 refine T_loop (T := Nat × Option Addr × Nat) (fun ⟨k, A1, c1⟩ => k ≤ q ∧ tke b k = 0) (fun ⟨k, A1, c1⟩ => [(0, (.slice A n c)), (1, (.int .i64 ((q : Nat) : Int))), (6, (.slice A1 k c1)), (7, (.int .i64 ((k : Nat) : Int)))]) (fun ⟨k, A1, c1⟩ => [.row (.slice A1 k c1) 37 4 k (rcs (tks b k)), .rd A 1 n c (b.map b8)]) (fun ⟨k, A1, c1⟩ => q - k) (0, none, 0) (⟨by omega, rfl⟩) (sc rfl (sc rfl (sc rfl (sc rfl sn)))) [0, 1] ⟨by decide, rfl⟩ ?_
 rintro ⟨k, A1, c1⟩ hp
 have hp : k ≤ q ∧ tke b k = 0 := hp
 have hkl := hp.1
 have hcl := fun hkq : k < q => chk_len hb hnq hkq
 refine lE [(0, (.slice A n c)), (1, (.int .i64 ((q : Nat) : Int))), (6, (.slice A1 k c1)), (7, (.int .i64 ((k : Nat) : Int)))] ?_
 refine lH [0, 1] [.row (.slice A1 k c1) 37 4 k (rcs (tks b k)), .rd A 1 n c (b.map b8)] ?_
 refine T_seq ?_
 refine lT ?_
 refine lM ?_
 refine lM ?_
 refine lO (pr_cmp (bo := .lss) (nc_lt (a := k) (b := q)) rfl rfl rfl rfl) ?_
 refine L_nil ?_
 refine T_cond (decide (k < q)) rfl (fun hc_6 => ?_) (fun hc_6 => ?_)
 ·have hc_6 := of_decide_eq_true hc_6
  refine T_skip ?_
  refine T_seq ?_
  refine T_block ?_
  refine lT ?_
  refine lM ?_
  refine lM ?_
  refine lO (pr_mul (nm_i64 (a := 32) (b := k) sd) rfl rfl rfl) ?_
  refine lM ?_
  refine lO (pr_mul (nm_i64 (a := 32) (b := k) sd) rfl rfl rfl) ?_
  refine lO (pr_add (na_i64 (a := 32 * k) (b := 32) sd) rfl rfl rfl) ?_
  refine L_op rfl (op_slice_rd (l := 32 * k) (u := 32 * k + 32) 1 rfl sd sd Tryz.underlying27 kr rfl rfl ⟨_, rfl⟩ ⟨_, rfl⟩ rfl rfl (fun B7 => ?_))
  refine T_as 0 _ (.rd B7 1 ((32 * k + 32) - (32 * k)) (c - (32 * k)) ((List.take ((32 * k + 32) - (32 * k)) (List.drop (32 * k) b)).map b8)) rfl (by congr 1; simp [List.map_take, List.map_drop] <;> omega) ?_
  have hcl2 := chk_len hb hnq (k := k) oM
  refine T_slot 38 _ (.slice B7 32 (c - (32 * k))) rfl (by congr 1; omega) ?_
  refine T_as 0 _ (.rd B7 1 32 (c - (32 * k)) ((chk b k).map b8)) rfl (by rw [show 32 * k + 32 - 32 * k = 32 from by omega]; rfl) ?_
  refine L_op rfl (op_cn (fun w hw => rrtake_f (chk b k) B7 32 (c - (32 * k)) w (hok_cons ((src_rd 0 rfl) w hw) (hok_nil w)) sd sd) (enters_of Tryz.func47 kr rfl) rfl rfl rfl rfl rfl (fun t8 q9 => ?_))
  refine lM ?_
  refine lO (pr_ext (vs := [(.agg [(.bool ((rtk (chk b k)).d)), (.int .i64 (i64 (rtk (chk b k)).k)), (.int .i64 (i64 (rtk (chk b k)).v)), (.int .i64 (i64 (rtk (chk b k)).s))].toArray), (.int .i64 (((rte (chk b k)) : Nat) : Int))]) rfl rfl rfl) ?_
  refine lO (pr_ext (vs := [(.agg [(.bool ((rtk (chk b k)).d)), (.int .i64 (i64 (rtk (chk b k)).k)), (.int .i64 (i64 (rtk (chk b k)).v)), (.int .i64 (i64 (rtk (chk b k)).s))].toArray), (.int .i64 (((rte (chk b k)) : Nat) : Int))]) rfl rfl rfl) ?_
  refine L_op rfl (op_alloc (z := .agg [(.bool false), (.int .i64 ((0 : Nat) : Int)), (.int .i64 ((0 : Nat) : Int)), (.int .i64 ((0 : Nat) : Int))].toArray) (zs := [(.bool false), (.int .i64 ((0 : Nat) : Int)), (.int .i64 ((0 : Nat) : Int)), (.int .i64 ((0 : Nat) : Int))]) kr rfl rfl rfl rfl (fun g10 => ?_))
  refine L_op rfl (op_sto (n := 4) (vs := [(.bool ((rtk (chk b k)).d)), (.int .i64 (i64 (rtk (chk b k)).k)), (.int .i64 (i64 (rtk (chk b k)).v)), (.int .i64 (i64 (rtk (chk b k)).s))]) 0 rfl rfl kr (by simp [Value.oneCell']) kr kr rfl rfl rfl rfl ?_)
  refine lS ?_
  refine L_nil ?_
  refine T_seq ?_
  refine lT ?_
  refine lM ?_
  refine lO (pr_cmp (bo := .neq) (nc_ne (a := (rte (chk b k))) (b := 0)) rfl rfl rfl rfl) ?_
  refine L_nil ?_
  refine T_cond ((rte (chk b k)) != 0) rfl (fun hc_11 => ?_) (fun hc_11 => ?_)
  ·have hc_11 : ¬ (rte (chk b k)) = 0 := by simpa using hc_11
   refine lT ?_
   refine lM ?_
   refine lS ?_
   refine lS ?_
   refine L_nil ?_
   refine T_ret ?_
   refine T_slot 4 (.slice none 0 0) (.slice none (btn b z) 0) rfl (by rw [btn_no (by rw [bte_err hz1 hz2 hzq oM (by omega : k < q) hp.2 aS]; assumption)]) ?_
   refine T_slot 5 (.int .i64 (((rte (chk b k)) : Nat) : Int)) (.int .i64 (((bte b z) : Nat) : Int)) rfl (by rw [bte_err hz1 hz2 hzq oM (by omega : k < q) hp.2 aS]) ?_
   refine T_nilrow 37 4 ?_
   refine T_as 0 _ (.row (.slice none (btn b z) 0) 37 4 (btn b z) (rcs (btk b z))) rfl (by rw [btn_no (by rw [bte_err hz1 hz2 hzq oM (by omega : k < q) hp.2 aS]; assumption), btk_no (by rw [bte_err hz1 hz2 hzq oM (by omega : k < q) hp.2 aS]; assumption)]; rfl) ?_
   exact T_fin (none, 0) qN (res2 rfl rfl rfl) [0] ⟨by decide, rfl⟩ rfl
  have hc_11 : (rte (chk b k)) = 0 := by simpa using hc_11
  refine T_skip ?_
  refine lR ?_
  refine lM ?_
  refine lQ (ld_agg (ds := [(.bool ((rtk (chk b k)).d)), (.int .i64 (i64 (rtk (chk b k)).k)), (.int .i64 (i64 (rtk (chk b k)).v)), (.int .i64 (i64 (rtk (chk b k)).s))]) 0 rfl agg_all Tryz.underlying37 rfl kr rfl rfl) ?_
  refine L_op rfl (op_bslice (e := 37) (zs := [(.bool ((rtk (chk b k)).d)), (.int .i64 (i64 (rtk (chk b k)).k)), (.int .i64 (i64 (rtk (chk b k)).v)), (.int .i64 (i64 (rtk (chk b k)).s))]) (qs := [(0, (.agg [(.bool ((rtk (chk b k)).d)), (.int .i64 (i64 (rtk (chk b k)).k)), (.int .i64 (i64 (rtk (chk b k)).v)), (.int .i64 (i64 (rtk (chk b k)).s))].toArray))]) (fun _ => by kernel_rfl) rfl rfl rfl rfl (fun g12 => ?_))
  refine L_op rfl (op_append (z := .agg [(.bool false), (.int .i64 ((0 : Nat) : Int)), (.int .i64 ((0 : Nat) : Int)), (.int .i64 ((0 : Nat) : Int))].toArray) (size := 4) (bytes := 32) 3 rfl Tryz.underlying26 kr kr (by decide) (src_blk (z := 4) (ds := [(.bool ((rtk (chk b k)).d)), (.int .i64 (i64 (rtk (chk b k)).k)), (.int .i64 (i64 (rtk (chk b k)).v)), (.int .i64 (i64 (rtk (chk b k)).s))]) 0 rfl rfl rfl sd sd) (by simp [Value.oneCell']) sd sd rfl rfl rfl rfl rfl (fun A13 C14 => ?_))
  refine T_as 0 _ (.row (.slice A13 (k + 1) C14) 37 4 (k + 1) (rcs ((tks b k) ++ [(Rc.mk ((rtk (chk b k)).d) ((rtk (chk b k)).k) ((rtk (chk b k)).v) ((rtk (chk b k)).s))]))) rfl (by rw [rcs_app]; rfl) ?_
  refine lS ?_
  refine L_nil ?_
  refine lR ?_
  refine lM ?_
  refine lO (pr_add (na_i64 (a := k) (b := 1) sd) rfl rfl rfl) ?_
  refine lS ?_
  refine L_nil ?_
  refine T_as 0 _ (.row (.slice A13 (k + 1) C14) 37 4 (k + 1) (rcs (tks b (k + 1)))) rfl (by rfl) ?_
  exact T_again (k + 1, A13, C14) (⟨by omega, tke_on hp.2 aS⟩) (by dsimp only; omega) (sc rfl (sc rfl (sc rfl (sc rfl sn)))) [0, 4] ⟨by decide, rfl⟩
 have hc_6 := of_decide_eq_false hc_6
 refine T_exit rfl ?_
 obtain rfl : q = k := by omega
 have htz : tke b q = 0 := hp.2
 refine lT ?_
 refine lM ?_
 refine lS ?_
 refine lS ?_
 refine L_nil ?_
 refine T_ret ?_
 refine T_slot 4 (.slice A1 q c1) (.slice A1 (btn b z) c1) rfl (by rw [btn_ok ((bte_ok hz1 hz2 hzq oM).trans htz) hzq]) ?_
 refine T_slot 5 (.int .i64 ((0 : Nat) : Int)) (.int .i64 (((bte b z) : Nat) : Int)) rfl (by rw [(bte_ok hz1 hz2 hzq oM).trans htz]) ?_
 refine T_as 0 _ (.row (.slice A1 (btn b z) c1) 37 4 (btn b z) (rcs (btk b z))) rfl (by rw [btn_ok ((bte_ok hz1 hz2 hzq oM).trans htz) hzq, btk_ok ((bte_ok hz1 hz2 hzq oM).trans htz) hzq]) ?_
 exact T_fin (A1, c1) qN (res2 rfl rfl rfl) [0] ⟨by decide, rfl⟩ rfl
theorem rat_in {xs : List Rc} {n k : Nat} (ys : List Rc) (hx : xs.length = n) (h : k < n) : rat (xs ++ ys) k = rat xs k := by subst hx; unfold rat; simp [List.getD_eq_getElem?_getD, List.getElem?_append_left h]
theorem rat_out {xs : List Rc} {n k q : Nat} (hx : xs.length = n) (h : ¬ k < n) (hq : k < q) : rat (xs ++ List.replicate (q - n) rdead) k = rdead := by
  subst hx; unfold rat
  rw [List.getD_eq_getElem?_getD, List.getElem?_append_right oM, List.getElem?_replicate, if_pos oM]; rfl
end Go.Proofs.YtlplpmkdebemnaaGreat
namespace Go.Proofs.YtlplpmkdebemnaaGreat
open Bv
def shaK : List (BitVec 32) := [
  0x428a2f98#32, 0x71374491#32, 0xb5c0fbcf#32, 0xe9b5dba5#32, 0x3956c25b#32, 0x59f111f1#32, 0x923f82a4#32, 0xab1c5ed5#32,
  0xd807aa98#32, 0x12835b01#32, 0x243185be#32, 0x550c7dc3#32, 0x72be5d74#32, 0x80deb1fe#32, 0x9bdc06a7#32, 0xc19bf174#32,
  0xe49b69c1#32, 0xefbe4786#32, 0x0fc19dc6#32, 0x240ca1cc#32, 0x2de92c6f#32, 0x4a7484aa#32, 0x5cb0a9dc#32, 0x76f988da#32,
  0x983e5152#32, 0xa831c66d#32, 0xb00327c8#32, 0xbf597fc7#32, 0xc6e00bf3#32, 0xd5a79147#32, 0x06ca6351#32, 0x14292967#32,
  0x27b70a85#32, 0x2e1b2138#32, 0x4d2c6dfc#32, 0x53380d13#32, 0x650a7354#32, 0x766a0abb#32, 0x81c2c92e#32, 0x92722c85#32,
  0xa2bfe8a1#32, 0xa81a664b#32, 0xc24b8b70#32, 0xc76c51a3#32, 0xd192e819#32, 0xd6990624#32, 0xf40e3585#32, 0x106aa070#32,
  0x19a4c116#32, 0x1e376c08#32, 0x2748774c#32, 0x34b0bcb5#32, 0x391c0cb3#32, 0x4ed8aa4a#32, 0x5b9cca4f#32, 0x682e6ff3#32,
  0x748f82ee#32, 0x78a5636f#32, 0x84c87814#32, 0x8cc70208#32, 0x90befffa#32, 0xa4506ceb#32, 0xbef9a3f7#32, 0xc67178f2#32]
theorem shaK_len : shaK.length = 64 := rfl
def rol32 (x : BitVec 32) (s : Nat) : BitVec 32 := x <<< s ||| x >>> (32 - s)
def ror32 (x : BitVec 32) (n : Nat) : BitVec 32 := x >>> n ||| x <<< (32 - n)
theorem rol_ror (x : BitVec 32) (n : Nat) (h0 : 0 < n) (h1 : n < 32) : rol32 x (32 - n) = ror32 x n := by
  unfold rol32 ror32
  rw [show 32 - (32 - n) = n by omega, BitVec.or_comm]
theorem rol32_and (x : BitVec 32) (s : Nat) (hs : s < 32) : x <<< (BitVec.ofNat 64 s).toNat ||| x >>> (32#64 - BitVec.ofNat 64 s).toNat = rol32 x s := by
  have h1 : (BitVec.ofNat 64 s).toNat = s := by rw [BitVec.toNat_ofNat]; omega
  have h2 : (32#64 - BitVec.ofNat 64 s).toNat = 32 - s := by rw [BitVec.toNat_sub, h1]; simp; omega
  rw [h1, h2]; rfl
def padb (n : Nat) : List (BitVec 8) := 0x80#8 :: (List.replicate ((119 - n % 64) % 64) 0#8 ++ highb (BitVec.ofNat 64 n * 8#64) 8 8)
def plen (n : Nat) : Nat := 1 + (119 - n % 64) % 64 + 8
theorem padb_len (n : Nat) : (padb n).length = plen n := by unfold padb plen; simp [highb_len]; omega
theorem plen_le (n : Nat) : plen n ≤ 72 := by unfold plen; omega
theorem plen_mod (n : Nat) : (n + plen n) % 64 = 0 := by unfold plen; omega
def fil {w : Nat} (xs : List (BitVec w)) (n : Nat) : List (BitVec w) := xs ++ List.replicate (n - xs.length) 0
theorem fil_len {w : Nat} (xs : List (BitVec w)) (n : Nat) (h : xs.length ≤ n) : (fil xs n).length = n := by unfold fil; simp; omega
theorem ath_fil {w : Nat} (xs : List (BitVec w)) (n j : Nat) (h : j < xs.length) : ath (fil xs n) j = ath xs j := ath_app_l _ _ _ h
theorem fil_set {w : Nat} (xs : List (BitVec w)) (n : Nat) (v : BitVec w) (h : xs.length < n) : (fil xs n).set xs.length v = fil (xs ++ [v]) n := by
  unfold fil
  rw [List.set_append_right _ _ (Nat.le_refl _), Nat.sub_self]
  rw [show n - xs.length = (n - (xs ++ [v]).length) + 1 by simp; omega, List.replicate_succ, List.set_cons_zero]
  simp
def sig0 (x : BitVec 32) : BitVec 32 := ror32 x 7 ^^^ ror32 x 18 ^^^ x >>> 3
def sig1 (x : BitVec 32) : BitVec 32 := ror32 x 17 ^^^ ror32 x 19 ^^^ x >>> 10
def schn (b : List (BitVec 8)) (ws : List (BitVec 32)) (k : Nat) : BitVec 32 :=
  if k < 16 then (high (b.drop (4 * k)) 4).setWidth 32 else ath ws (k - 16) + sig0 (ath ws (k - 15)) + ath ws (k - 7) + sig1 (ath ws (k - 2))
def schw (b : List (BitVec 8)) : Nat → List (BitVec 32)
  | 0 => []
  | k + 1 => schw b k ++ [schn b (schw b k) k]
theorem schw_len (b : List (BitVec 8)) : ∀ k, (schw b k).length = k
  | 0 => rfl
  | k + 1 => by rw [schw, List.length_append, schw_len b k]; rfl
theorem fschw_len (b : List (BitVec 8)) (k : Nat) (h : k ≤ 64) : (fil (schw b k) 64).length = 64 := fil_len _ _ (by rw [schw_len]; exact h)
theorem schw_lo (b : List (BitVec 8)) (k : Nat) (h : k < 16) : (fil (schw b k) 64).set k ((high (b.drop (4 * k)) 4).setWidth 32) = fil (schw b (k + 1)) 64 := by
  have := fil_set (schw b k) 64 (schn b (schw b k) k) (by rw [schw_len]; omega)
  rw [schw_len] at this
  rw [schw, ← this, schn, if_pos h]
theorem schw_hi (b : List (BitVec 8)) (k : Nat) (h : 16 ≤ k) (h2 : k < 64) (v : BitVec 32) (hv : v = ath (fil (schw b k) 64) (k - 16) + sig0 (ath (fil (schw b k) 64) (k - 15)) + ath (fil (schw b k) 64) (k - 7) + sig1 (ath (fil (schw b k) 64) (k - 2))) : (fil (schw b k) 64).set k v = fil (schw b (k + 1)) 64 := by
  have := fil_set (schw b k) 64 (schn b (schw b k) k) (by rw [schw_len]; omega)
  rw [schw_len] at this
  rw [schw, ← this, schn, if_neg oM, hv]
  rw [ath_fil _ _ _ (by rw [schw_len]; omega), ath_fil _ _ _ (by rw [schw_len]; omega), ath_fil _ _ _ (by rw [schw_len]; omega), ath_fil _ _ _ (by rw [schw_len]; omega)]
theorem fil_zero (b : List (BitVec 8)) : (List.replicate 64 0#32) = fil (schw b 0) 64 := rfl
def rnd (a : List (BitVec 32)) (k w : BitVec 32) : List (BitVec 32) :=
  [ath a 7 + (ror32 (ath a 4) 6 ^^^ ror32 (ath a 4) 11 ^^^ ror32 (ath a 4) 25) + (ath a 4 &&& ath a 5 ^^^ ~~~ath a 4 &&& ath a 6) + k + w +
    ((ror32 (ath a 0) 2 ^^^ ror32 (ath a 0) 13 ^^^ ror32 (ath a 0) 22) + (ath a 0 &&& ath a 1 ^^^ ath a 0 &&& ath a 2 ^^^ ath a 1 &&& ath a 2)),
   ath a 0, ath a 1, ath a 2,
   ath a 3 + (ath a 7 + (ror32 (ath a 4) 6 ^^^ ror32 (ath a 4) 11 ^^^ ror32 (ath a 4) 25) + (ath a 4 &&& ath a 5 ^^^ ~~~ath a 4 &&& ath a 6) + k + w),
   ath a 4, ath a 5, ath a 6]
def rounds (s ws : List (BitVec 32)) : Nat → List (BitVec 32)
  | 0 => s
  | k + 1 => rnd (rounds s ws k) (ath shaK k) (ath ws k)
theorem rounds_len (s ws : List (BitVec 32)) (h : s.length = 8) : ∀ k, (rounds s ws k).length = 8
  | 0 => h
  | _ + 1 => rfl
def addt (s a : List (BitVec 32)) : Nat → List (BitVec 32)
  | 0 => s
  | k + 1 => (addt s a k).set k (ath (addt s a k) k + ath a k)
theorem addt_len (s a : List (BitVec 32)) : ∀ k, (addt s a k).length = s.length
  | 0 => rfl
  | k + 1 => by rw [addt, List.length_set, addt_len s a k]
def mixb (s : List (BitVec 32)) (b : List (BitVec 8)) : List (BitVec 32) := addt s (rounds s (schw b 64) 64) 8
theorem rounds_succ (s ws : List (BitVec 32)) (k : Nat) : rounds s ws (k + 1) = rnd (rounds s ws k) (ath shaK k) (ath ws k) := rfl
theorem rounds_zero (s ws : List (BitVec 32)) : rounds s ws 0 = s := rfl
theorem addt_succ (s a : List (BitVec 32)) (k : Nat) : addt s a (k + 1) = (addt s a k).set k (ath (addt s a k) k + ath a k) := rfl
theorem addt_zero (s a : List (BitVec 32)) : addt s a 0 = s := rfl
theorem mixb_def (s : List (BitVec 32)) (b : List (BitVec 8)) : mixb s b = addt s (rounds s (schw b 64) 64) 8 := rfl
theorem fil_all (b : List (BitVec 8)) : fil (schw b 64) 64 = schw b 64 := by unfold fil; rw [schw_len]; simp
theorem sig0_def (x : BitVec 32) : ror32 x 7 ^^^ ror32 x 18 ^^^ x >>> 3 = sig0 x := rfl
theorem sig1_def (x : BitVec 32) : ror32 x 17 ^^^ ror32 x 19 ^^^ x >>> 10 = sig1 x := rfl
theorem mixb_len (s : List (BitVec 32)) (b : List (BitVec 8)) : (mixb s b).length = s.length := addt_len _ _ 8
def shaH : List (BitVec 32) := [0x6a09e667#32, 0xbb67ae85#32, 0x3c6ef372#32, 0xa54ff53a#32, 0x510e527f#32, 0x9b05688c#32, 0x1f83d9ab#32, 0x5be0cd19#32]
def hst (m : List (BitVec 8)) : Nat → List (BitVec 32)
  | 0 => shaH
  | k + 1 => mixb (hst m k) ((m.drop (64 * k)).take 64)
theorem hst_len (m : List (BitVec 8)) : ∀ k, (hst m k).length = 8
  | 0 => rfl
  | k + 1 => by rw [hst, mixb_len, hst_len m k]
theorem hst_zero (m : List (BitVec 8)) : hst m 0 = shaH := rfl
theorem hst_succ (m : List (BitVec 8)) (k : Nat) : hst m (k + 1) = mixb (hst m k) ((m.drop (64 * k)).take 64) := rfl
def shaout (s : List (BitVec 32)) : Nat → List (BitVec 8)
  | 0 => []
  | k + 1 => shaout s k ++ highb ((ath s k).setWidth 64) 4 4
theorem shaout_len (s : List (BitVec 32)) : ∀ k, (shaout s k).length = 4 * k
  | 0 => rfl
  | k + 1 => by rw [shaout, List.length_append, shaout_len s k, highb_len]; omega
theorem shaout_zero (s : List (BitVec 32)) : shaout s 0 = [] := rfl
theorem shaout_succ (s : List (BitVec 32)) (k : Nat) : shaout s (k + 1) = shaout s k ++ highb ((ath s k).setWidth 64) 4 4 := rfl
def shamsg (b : List (BitVec 8)) : List (BitVec 8) := b ++ padb b.length
theorem shamsg_len (b : List (BitVec 8)) : (shamsg b).length = b.length + plen b.length := by unfold shamsg; rw [List.length_append, padb_len]
theorem shamsg_def (b : List (BitVec 8)) : b ++ padb b.length = shamsg b := rfl
def shasum (b : List (BitVec 8)) : List (BitVec 8) := shaout (hst (shamsg b) ((b.length + plen b.length + 64 - 1) / 64)) 8
theorem shasum_def (b : List (BitVec 8)) : shasum b = shaout (hst (shamsg b) ((b.length + plen b.length + 64 - 1) / 64)) 8 := rfl
theorem shasum_len (b : List (BitVec 8)) : (shasum b).length = 32 := shaout_len _ 8
theorem shaH_len : shaH.length = 8 := rfl
theorem shablk (b : List (BitVec 8)) (k : Nat) (hk : k < (b.length + plen b.length + 64 - 1) / 64) : min 64 (b.length + plen b.length - 64 * k) = 64 ∧ (List.take 64 (List.drop (64 * k) (shamsg b))).length = 64 := by
  have h1 := plen_mod b.length
  have h2 := shamsg_len b
  constructor
  · omega
  · rw [List.length_take, List.length_drop, h2]; omega
attribute [irreducible] hst shaout shasum shamsg shaH plen padb
attribute [irreducible] schw rounds addt mixb shaK
end Go.Proofs.YtlplpmkdebemnaaGreat
namespace Go.Proofs.YtlplpmkdebemnaaGreat
set_option maxRecDepth 100000
open Go.RowKit Bv Fw
set_option maxHeartbeats 4000000 in
theorem words_f  (w : World) (hO : HOK [] w)  : Calls Tryz.prog 107 [].toArray w (Ret (T := Unit) [] w (fun _ => True) (fun _ => (.agg (shaK.map b32).toArray)) (fun _ => [])) := by
 have hkl := shaK_len
 refine enter (c := _) Tryz.func107 rfl [] _ [] (by rw [Tryz.ntmps107]; rfl) (own_rds hO rfl) ?_
 rw [Tryz.ntmps107]
 refine lE [] ?_
 refine lH [] [] ?_
 refine lT ?_
 refine L_op rfl (op_alloc (z := .agg ((List.replicate 64 0#32).map b32).toArray) (zs := ((List.replicate 64 0#32).map b32)) kr rfl rfl rfl rfl (fun g1 => ?_))
 refine lN ?_
 refine lO (pr_build (qs := [(0, (b32 (1116352408#32))), (1, (b32 (1899447441#32))), (2, (b32 (3049323471#32))), (3, (b32 (3921009573#32))), (4, (b32 (961987163#32))), (5, (b32 (1508970993#32))), (6, (b32 (2453635748#32))), (7, (b32 (2870763221#32))), (8, (b32 (3624381080#32))), (9, (b32 (310598401#32))), (10, (b32 (607225278#32))), (11, (b32 (1426881987#32))), (12, (b32 (1925078388#32))), (13, (b32 (2162078206#32))), (14, (b32 (2614888103#32))), (15, (b32 (3248222580#32))), (16, (b32 (3835390401#32))), (17, (b32 (4022224774#32))), (18, (b32 (264347078#32))), (19, (b32 (604807628#32))), (20, (b32 (770255983#32))), (21, (b32 (1249150122#32))), (22, (b32 (1555081692#32))), (23, (b32 (1996064986#32))), (24, (b32 (2554220882#32))), (25, (b32 (2821834349#32))), (26, (b32 (2952996808#32))), (27, (b32 (3210313671#32))), (28, (b32 (3336571891#32))), (29, (b32 (3584528711#32))), (30, (b32 (113926993#32))), (31, (b32 (338241895#32))), (32, (b32 (666307205#32))), (33, (b32 (773529912#32))), (34, (b32 (1294757372#32))), (35, (b32 (1396182291#32))), (36, (b32 (1695183700#32))), (37, (b32 (1986661051#32))), (38, (b32 (2177026350#32))), (39, (b32 (2456956037#32))), (40, (b32 (2730485921#32))), (41, (b32 (2820302411#32))), (42, (b32 (3259730800#32))), (43, (b32 (3345764771#32))), (44, (b32 (3516065817#32))), (45, (b32 (3600352804#32))), (46, (b32 (4094571909#32))), (47, (b32 (275423344#32))), (48, (b32 (430227734#32))), (49, (b32 (506948616#32))), (50, (b32 (659060556#32))), (51, (b32 (883997877#32))), (52, (b32 (958139571#32))), (53, (b32 (1322822218#32))), (54, (b32 (1537002063#32))), (55, (b32 (1747873779#32))), (56, (b32 (1955562222#32))), (57, (b32 (2024104815#32))), (58, (b32 (2227730452#32))), (59, (b32 (2361852424#32))), (60, (b32 (2428436474#32))), (61, (b32 (2756734187#32))), (62, (b32 (3204031479#32))), (63, (b32 (3329325298#32)))]) (v := .agg ([1116352408#32, 1899447441#32, 3049323471#32, 3921009573#32, 961987163#32, 1508970993#32, 2453635748#32, 2870763221#32, 3624381080#32, 310598401#32, 607225278#32, 1426881987#32, 1925078388#32, 2162078206#32, 2614888103#32, 3248222580#32, 3835390401#32, 4022224774#32, 264347078#32, 604807628#32, 770255983#32, 1249150122#32, 1555081692#32, 1996064986#32, 2554220882#32, 2821834349#32, 2952996808#32, 3210313671#32, 3336571891#32, 3584528711#32, 113926993#32, 338241895#32, 666307205#32, 773529912#32, 1294757372#32, 1396182291#32, 1695183700#32, 1986661051#32, 2177026350#32, 2456956037#32, 2730485921#32, 2820302411#32, 3259730800#32, 3345764771#32, 3516065817#32, 3600352804#32, 4094571909#32, 275423344#32, 430227734#32, 506948616#32, 659060556#32, 883997877#32, 958139571#32, 1322822218#32, 1537002063#32, 1747873779#32, 1955562222#32, 2024104815#32, 2227730452#32, 2361852424#32, 2428436474#32, 2756734187#32, 3204031479#32, 3329325298#32].map b32).toArray) (fun _ => by kernel_rfl) rfl rfl) ?_
 refine L_op rfl (op_sto (n := 64) (vs := ([1116352408#32, 1899447441#32, 3049323471#32, 3921009573#32, 961987163#32, 1508970993#32, 2453635748#32, 2870763221#32, 3624381080#32, 310598401#32, 607225278#32, 1426881987#32, 1925078388#32, 2162078206#32, 2614888103#32, 3248222580#32, 3835390401#32, 4022224774#32, 264347078#32, 604807628#32, 770255983#32, 1249150122#32, 1555081692#32, 1996064986#32, 2554220882#32, 2821834349#32, 2952996808#32, 3210313671#32, 3336571891#32, 3584528711#32, 113926993#32, 338241895#32, 666307205#32, 773529912#32, 1294757372#32, 1396182291#32, 1695183700#32, 1986661051#32, 2177026350#32, 2456956037#32, 2730485921#32, 2820302411#32, 3259730800#32, 3345764771#32, 3516065817#32, 3600352804#32, 4094571909#32, 275423344#32, 430227734#32, 506948616#32, 659060556#32, 883997877#32, 958139571#32, 1322822218#32, 1537002063#32, 1747873779#32, 1955562222#32, 2024104815#32, 2227730452#32, 2361852424#32, 2428436474#32, 2756734187#32, 3204031479#32, 3329325298#32].map b32)) 0 rfl rfl kr (all32_one _) kr kr rfl rfl rfl rfl ?_)
 refine L_nil ?_
 refine T_ret ?_
 refine T_as 0 _ (.blk g1 132 (shaK.map b32)) rfl (by unfold shaK; rfl) ?_
 exact T_fin () qN (resb 0 rfl rfl rfl Tryz.underlying132 rfl (fwz (n := 64) kr sd)) [] ⟨by decide, rfl⟩ rfl
set_option maxHeartbeats 4000000 in
theorem rwords_f  (w : World) (hO : HOK [] w)  : Calls Tryz.prog 103 [].toArray w (Ret (T := Unit) [] w (fun _ => True) (fun _ => (.agg (shaK.map b32).toArray)) (fun _ => [])) := by
 have hkl := shaK_len
 refine enter (c := _) Tryz.func103 rfl [] _ [] (by rw [Tryz.ntmps103]; rfl) (own_rds hO rfl) ?_
 rw [Tryz.ntmps103]
 refine lE [] ?_
 refine lH [] [] ?_
 refine lT ?_
 refine L_op rfl (op_alloc (z := .agg ((List.replicate 64 0#32).map b32).toArray) (zs := ((List.replicate 64 0#32).map b32)) kr rfl rfl rfl rfl (fun g1 => ?_))
 refine lN ?_
 refine lO (pr_build (qs := [(0, (b32 (1116352408#32))), (1, (b32 (1899447441#32))), (2, (b32 (3049323471#32))), (3, (b32 (3921009573#32))), (4, (b32 (961987163#32))), (5, (b32 (1508970993#32))), (6, (b32 (2453635748#32))), (7, (b32 (2870763221#32))), (8, (b32 (3624381080#32))), (9, (b32 (310598401#32))), (10, (b32 (607225278#32))), (11, (b32 (1426881987#32))), (12, (b32 (1925078388#32))), (13, (b32 (2162078206#32))), (14, (b32 (2614888103#32))), (15, (b32 (3248222580#32))), (16, (b32 (3835390401#32))), (17, (b32 (4022224774#32))), (18, (b32 (264347078#32))), (19, (b32 (604807628#32))), (20, (b32 (770255983#32))), (21, (b32 (1249150122#32))), (22, (b32 (1555081692#32))), (23, (b32 (1996064986#32))), (24, (b32 (2554220882#32))), (25, (b32 (2821834349#32))), (26, (b32 (2952996808#32))), (27, (b32 (3210313671#32))), (28, (b32 (3336571891#32))), (29, (b32 (3584528711#32))), (30, (b32 (113926993#32))), (31, (b32 (338241895#32))), (32, (b32 (666307205#32))), (33, (b32 (773529912#32))), (34, (b32 (1294757372#32))), (35, (b32 (1396182291#32))), (36, (b32 (1695183700#32))), (37, (b32 (1986661051#32))), (38, (b32 (2177026350#32))), (39, (b32 (2456956037#32))), (40, (b32 (2730485921#32))), (41, (b32 (2820302411#32))), (42, (b32 (3259730800#32))), (43, (b32 (3345764771#32))), (44, (b32 (3516065817#32))), (45, (b32 (3600352804#32))), (46, (b32 (4094571909#32))), (47, (b32 (275423344#32))), (48, (b32 (430227734#32))), (49, (b32 (506948616#32))), (50, (b32 (659060556#32))), (51, (b32 (883997877#32))), (52, (b32 (958139571#32))), (53, (b32 (1322822218#32))), (54, (b32 (1537002063#32))), (55, (b32 (1747873779#32))), (56, (b32 (1955562222#32))), (57, (b32 (2024104815#32))), (58, (b32 (2227730452#32))), (59, (b32 (2361852424#32))), (60, (b32 (2428436474#32))), (61, (b32 (2756734187#32))), (62, (b32 (3204031479#32))), (63, (b32 (3329325298#32)))]) (v := .agg ([1116352408#32, 1899447441#32, 3049323471#32, 3921009573#32, 961987163#32, 1508970993#32, 2453635748#32, 2870763221#32, 3624381080#32, 310598401#32, 607225278#32, 1426881987#32, 1925078388#32, 2162078206#32, 2614888103#32, 3248222580#32, 3835390401#32, 4022224774#32, 264347078#32, 604807628#32, 770255983#32, 1249150122#32, 1555081692#32, 1996064986#32, 2554220882#32, 2821834349#32, 2952996808#32, 3210313671#32, 3336571891#32, 3584528711#32, 113926993#32, 338241895#32, 666307205#32, 773529912#32, 1294757372#32, 1396182291#32, 1695183700#32, 1986661051#32, 2177026350#32, 2456956037#32, 2730485921#32, 2820302411#32, 3259730800#32, 3345764771#32, 3516065817#32, 3600352804#32, 4094571909#32, 275423344#32, 430227734#32, 506948616#32, 659060556#32, 883997877#32, 958139571#32, 1322822218#32, 1537002063#32, 1747873779#32, 1955562222#32, 2024104815#32, 2227730452#32, 2361852424#32, 2428436474#32, 2756734187#32, 3204031479#32, 3329325298#32].map b32).toArray) (fun _ => by kernel_rfl) rfl rfl) ?_
 refine L_op rfl (op_sto (n := 64) (vs := ([1116352408#32, 1899447441#32, 3049323471#32, 3921009573#32, 961987163#32, 1508970993#32, 2453635748#32, 2870763221#32, 3624381080#32, 310598401#32, 607225278#32, 1426881987#32, 1925078388#32, 2162078206#32, 2614888103#32, 3248222580#32, 3835390401#32, 4022224774#32, 264347078#32, 604807628#32, 770255983#32, 1249150122#32, 1555081692#32, 1996064986#32, 2554220882#32, 2821834349#32, 2952996808#32, 3210313671#32, 3336571891#32, 3584528711#32, 113926993#32, 338241895#32, 666307205#32, 773529912#32, 1294757372#32, 1396182291#32, 1695183700#32, 1986661051#32, 2177026350#32, 2456956037#32, 2730485921#32, 2820302411#32, 3259730800#32, 3345764771#32, 3516065817#32, 3600352804#32, 4094571909#32, 275423344#32, 430227734#32, 506948616#32, 659060556#32, 883997877#32, 958139571#32, 1322822218#32, 1537002063#32, 1747873779#32, 1955562222#32, 2024104815#32, 2227730452#32, 2361852424#32, 2428436474#32, 2756734187#32, 3204031479#32, 3329325298#32].map b32)) 0 rfl rfl kr (all32_one _) kr kr rfl rfl rfl rfl ?_)
 refine L_nil ?_
 refine T_ret ?_
 refine T_as 0 _ (.blk g1 132 (shaK.map b32)) rfl (by unfold shaK; rfl) ?_
 exact T_fin () qN (resb 0 rfl rfl rfl Tryz.underlying132 rfl (fwz (n := 64) kr sd)) [] ⟨by decide, rfl⟩ rfl
set_option maxHeartbeats 4000000 in
theorem rotl32_f (x : BitVec 32) (k : Int) (s : Nat) (w : World) (hO : HOK [] w) (hs : s < 32) (hk : k % 32 = (s : Int)) : Calls Tryz.prog 92 [(b32 x), (.int .i64 k)].toArray w (Ret (T := Unit) [] w (fun _ => True) (fun _ => (b32 (rol32 x s))) (fun _ => [])) := by
 refine enter (c := _) Tryz.func92 rfl [] _ [] (by rw [Tryz.ntmps92]; rfl) (own_rds hO rfl) ?_
 rw [Tryz.ntmps92]
 refine lE [(0, (b32 x)), (1, (.int .i64 k))] ?_
 refine lH [] [] ?_
 refine lT ?_
 refine lS ?_
 refine lN ?_
 refine lM ?_
 refine lO (pr_cv (zc_u64 k) Tryz.underlying3 Tryz.underlying39 rfl rfl) ?_
 refine lO (pr_and (ib_and64 _ (31#64)) rfl rfl rfl) ?_
 refine lS ?_
 refine lN ?_
 refine lM ?_
 refine lM ?_
 refine lO (pr_shift (sh_shl32 x _ (((BitVec.ofInt 64 k) &&& 31#64).toNat)) rfl rfl rfl rfl) ?_
 refine lM ?_
 refine lM ?_
 refine lO (pr_sub (sub64 (32#64) _) rfl rfl rfl) ?_
 refine lO (pr_shift (sh_shr32 x _ ((32#64 - ((BitVec.ofInt 64 k) &&& 31#64)).toNat)) rfl rfl rfl rfl) ?_
 refine lO (pr_or (ib_or32 _ _) rfl rfl rfl) ?_
 refine lS ?_
 refine L_nil ?_
 refine T_ret ?_
 refine T_slot 4 _ (b32 (rol32 x s)) rfl (by rw [rot_and k s hs hk]; exact congrArg b32 (rol32_and x s hs)) ?_
 exact T_fin () qN (res1 rfl rfl) [] ⟨by decide, rfl⟩ rfl
set_option maxHeartbeats 4000000 in
theorem rotated_f (x : BitVec 32) (n : Nat) (w : World) (hO : HOK [] w) (h0 : 0 < n) (h1 : n < 32) : Calls Tryz.prog 112 [(b32 x), (.int .i64 ((n : Nat) : Int))].toArray w (Ret (T := Unit) [] w (fun _ => True) (fun _ => (b32 (ror32 x n))) (fun _ => [])) := by
 refine enter (c := _) Tryz.func112 rfl [] _ [] (by rw [Tryz.ntmps112]; rfl) (own_rds hO rfl) ?_
 rw [Tryz.ntmps112]
 refine lE [(0, (b32 x)), (1, (.int .i64 ((n : Nat) : Int)))] ?_
 refine lH [] [] ?_
 refine lT ?_
 refine lS ?_
 refine lN ?_
 refine lM ?_
 refine lM ?_
 refine lO (pr_un (un_negi (a := n) sd) rfl rfl) ?_
 refine L_op rfl (op_cn (fun w hw => rotl32_f x (-((n : Nat) : Int)) (32 - n) w (hok_nil w) sd oM) (enters_of Tryz.func92 kr rfl) rfl rfl rfl rfl rfl (fun t1 q2 => ?_))
 refine lS ?_
 refine L_nil ?_
 refine T_ret ?_
 refine T_slot 4 (b32 (rol32 x (32 - n))) (b32 (ror32 x n)) rfl (by rw [rol_ror x n h0 h1]) ?_
 exact T_fin () qN (res1 rfl rfl) [] ⟨by decide, rfl⟩ rfl
set_option maxHeartbeats 4000000 in
theorem turn_f (x : BitVec 32) (n : Nat) (w : World) (hO : HOK [] w) (h0 : 0 < n) (h1 : n < 32) : Calls Tryz.prog 105 [(b32 x), (.int .i64 ((n : Nat) : Int))].toArray w (Ret (T := Unit) [] w (fun _ => True) (fun _ => (b32 (ror32 x n))) (fun _ => [])) := by
 refine enter (c := _) Tryz.func105 rfl [] _ [] (by rw [Tryz.ntmps105]; rfl) (own_rds hO rfl) ?_
 rw [Tryz.ntmps105]
 refine lE [(0, (b32 x)), (1, (.int .i64 ((n : Nat) : Int)))] ?_
 refine lH [] [] ?_
 refine lT ?_
 refine lS ?_
 refine lN ?_
 refine lM ?_
 refine lM ?_
 refine lO (pr_cv (ni_u64 (a := n) sd) Tryz.underlying3 Tryz.underlying39 rfl rfl) ?_
 refine lO (pr_shift (sh_shr32 x _ n) rfl rfl rfl rfl) ?_
 refine lM ?_
 refine lM ?_
 refine lO (pr_sub (ns_i64 (a := 32) (b := n) sd sd) rfl rfl rfl) ?_
 refine lO (pr_cv (ni_u64 (a := 32 - n) sd) Tryz.underlying3 Tryz.underlying39 rfl rfl) ?_
 refine lO (pr_shift (sh_shl32 x _ (32 - n)) rfl rfl rfl rfl) ?_
 refine lO (pr_or (ib_or32 _ _) rfl rfl rfl) ?_
 refine lS ?_
 refine L_nil ?_
 refine T_ret ?_
 refine T_slot 4 (b32 ((x >>> n) ||| (x <<< (32 - n)))) (b32 (ror32 x n)) rfl (by rfl) ?_
 exact T_fin () qN (res1 rfl rfl) [] ⟨by decide, rfl⟩ rfl
set_option maxHeartbeats 4000000 in
theorem pad_f (n : Nat) (w : World) (hO : HOK [] w) (hn : n ≤ 1100000000000) : Calls Tryz.prog 106 [(.int .i64 ((n : Nat) : Int))].toArray w (Ret (T := Option Addr × Nat) [] w (fun ⟨B, d⟩ => True) (fun ⟨B, d⟩ => (.slice B (plen n) d)) (fun ⟨B, d⟩ => [.row (.slice B (plen n) d) 5 1 (plen n) ((padb n).map b8)])) := by
 refine enter (c := _) Tryz.func106 rfl [] _ [] (by rw [Tryz.ntmps106]; rfl) (own_rds hO rfl) ?_
 rw [Tryz.ntmps106]
 refine lE [(0, (.int .i64 ((n : Nat) : Int)))] ?_
 refine lH [] [] ?_
 refine lT ?_
 refine lS ?_
 refine lN ?_
 refine lM ?_
 refine lO (pr_as (pr_max rfl rfl rfl) (nmax (k := .i64) (a := n) (b := 0))) ?_
 refine lS ?_
 refine lN ?_
 refine L_op rfl (op_bslice (e := 5) (zs := [(b8 (128#8))]) (qs := [(0, (b8 (128#8)))]) (fun _ => by kernel_rfl) rfl rfl rfl rfl (fun g1 => ?_))
 refine lM ?_
 refine lO (pr_rem (a := max n 0) (b := 64) sd rfl rfl rfl) ?_
 refine lO (pr_sub (ns_i64 (a := 119) (b := (max n 0) % 64) sd sd) rfl rfl rfl) ?_
 refine lO (pr_rem (a := 119 - ((max n 0) % 64)) (b := 64) sd rfl rfl rfl) ?_
 refine T_rowb 0 (zs := [(b8 (128#8))]) 1 1 1 rfl sd sd rfl rfl ?_
 refine L_op rfl (op_append0 (z := (b8 (0#8))) (bytes := 1) (m := (119 - ((max n 0) % 64)) % 64) 0 rfl Tryz.underlying27 Tryz.underlying3 kr rfl rfl sd sd rfl rfl rfl rfl rfl (fun A2 C3 => ?_))
 refine T_as 0 _ (.row (.slice A2 (1 + ((119 - ((max n 0) % 64)) % 64)) C3) 5 1 (1 + ((119 - ((max n 0) % 64)) % 64)) (([128#8] ++ (List.replicate ((119 - ((max n 0) % 64)) % 64) 0#8)).map b8)) rfl (by congr 1; simp) ?_
 refine lS ?_
 refine lN ?_
 refine lM ?_
 refine lM ?_
 refine lO (pr_cv (nw64 (max n 0)) Tryz.underlying3 Tryz.underlying23 rfl rfl) ?_
 refine lO (pr_mul (mul64 _ (8#64)) rfl rfl rfl) ?_
 refine L_op rfl (op_c1 0 rfl (fun w hw => putHigh_f ([128#8] ++ (List.replicate ((119 - ((max n 0) % 64)) % 64) 0#8)) ((BitVec.ofNat 64 (max n 0)) * 8#64) 8 A2 (1 + ((119 - ((max n 0) % 64)) % 64)) C3 w (hw _ (List.mem_of_getElem? (i := 0) rfl)) sd sd) (enters_of Tryz.func109 kr rfl) rfl rfl rfl rfl rfl (fun t4 q5 => ?_))
 obtain ⟨B6, d7⟩ := t4
 refine lS ?_
 refine L_nil ?_
 refine T_ret ?_
 refine T_slot 2 (.slice B6 ((1 + ((119 - ((max n 0) % 64)) % 64)) + 8) d7) (.slice B6 (plen n) d7) rfl (by simp [plen]) ?_
 refine T_as 0 _ (.row (.slice B6 (plen n) d7) 5 1 (plen n) ((padb n).map b8)) rfl (by simp [padb, plen]) ?_
 exact T_fin (B6, d7) qN (res1 rfl rfl) [0] ⟨by decide, rfl⟩ rfl
end Go.Proofs.YtlplpmkdebemnaaGreat
namespace Go.Proofs.YtlplpmkdebemnaaGreat
set_option maxRecDepth 100000
open Go.RowKit Bv Fw
set_option maxHeartbeats 4000000 in
theorem schedule_f (b : List (BitVec 8)) (A : Option Addr) (c : Nat) (w : World) (hO : HOK [.rd A 1 64 c (b.map b8)] w) (hb : b.length = 64) : Calls Tryz.prog 111 [(.slice A 64 c)].toArray w (Ret (T := Unit) [] w (fun _ => True) (fun _ => (.agg ((schw b 64).map b32).toArray)) (fun _ => [])) := by
 have hwl := schw_len b 64
 have hF : Wid Fence.wide := wid_wide
 refine enter (c := _) Tryz.func111 rfl [] _ [.rd A 1 64 c (b.map b8)] (by rw [Tryz.ntmps111]; rfl) (own_rds hO rfl) ?_
 rw [Tryz.ntmps111]
 refine lE [(0, (.slice A 64 c))] ?_
 refine lH [0] [.rd A 1 64 c (b.map b8)] ?_
 refine lT ?_
 refine L_op rfl (op_alloc (z := .agg ((List.replicate 64 0#32).map b32).toArray) (zs := ((List.replicate 64 0#32).map b32)) kr rfl rfl rfl rfl (fun g1 => ?_))
 refine L_nil ?_
 refine T_scope rfl ?_
 refine lT ?_
 refine L_op rfl (op_alloc (z := .agg ((List.replicate 64 0#32).map b32).toArray) (zs := ((List.replicate 64 0#32).map b32)) kr rfl rfl rfl rfl (fun g2 => ?_))
 refine L_nil ?_
 refine T_seq ?_
 refine T_label ?_
 refine T_seq ?_
 refine lT ?_
 refine lM ?_
 refine L_nil ?_
 refine T_block ?_
 refine T_as 0 _ (.blk g2 132 ((fil (schw b 0) 64).map b32)) rfl (by rw [← fil_zero]) ?_
 refine T_loop (T := Nat) (fun k => k ≤ 64) (fun k => [(0, (.slice A 64 c)), (2, (.pointer (some ⟨g1, 0, none⟩))), (3, (.pointer (some ⟨g2, 0, none⟩))), (7, (.int .i64 ((k : Nat) : Int)))]) (fun k => [.blk g2 132 ((fil (schw b k) 64).map b32), .blk g1 132 ((List.replicate 64 0#32).map b32), .rd A 1 64 c (b.map b8)]) (fun k => 64 - k) 0 pN (sc rfl (sc rfl (sc rfl (sc rfl sn)))) [0, 1, 2] ⟨by decide, rfl⟩ ?_
 rintro k hp
 have hp : k ≤ 64 := hp
 have hl := fschw_len b k hp
 refine lE [(0, (.slice A 64 c)), (2, (.pointer (some ⟨g1, 0, none⟩))), (3, (.pointer (some ⟨g2, 0, none⟩))), (7, (.int .i64 ((k : Nat) : Int)))] ?_
 refine lH [0, 1, 2] [.blk g2 132 ((fil (schw b k) 64).map b32), .blk g1 132 ((List.replicate 64 0#32).map b32), .rd A 1 64 c (b.map b8)] ?_
 refine lT ?_
 refine lO (pr_cmp (bo := .lss) (nc_lt (a := k) (b := 64)) rfl rfl rfl rfl) ?_
 refine L_nil ?_
 refine T_seq ?_
 refine T_cond (decide (k < 64)) rfl (fun hc_3 => ?_) (fun hc_3 => ?_)
 ·have hc_3 := of_decide_eq_true hc_3
  refine T_skip ?_
  refine T_seq ?_
  refine T_block ?_
  refine lT ?_
  refine lM ?_
  refine lS ?_
  refine L_nil ?_
  refine T_seq ?_
  refine lT ?_
  refine lM ?_
  refine lO (pr_cmp (bo := .lss) (nc_lt (a := k) (b := 16)) rfl rfl rfl rfl) ?_
  refine L_nil ?_
  refine T_cond (decide (k < 16)) rfl (fun hc_4 => ?_) (fun hc_4 => ?_)
  ·have hc_4 := of_decide_eq_true hc_4
   refine lT ?_
   refine lM ?_
   refine lM ?_
   refine lM ?_
   refine lO (pr_mul (nm_i64 (a := 4) (b := k) sd) rfl rfl rfl) ?_
   refine L_op rfl (op_slice_rd (l := 4 * k) (u := 64) 2 rfl sd sd Tryz.underlying27 kr rfl rfl ⟨_, rfl⟩ rfl rfl rfl (fun B5 => ?_))
   refine T_as 0 _ (.rd B5 1 (64 - (4 * k)) (c - (4 * k)) ((List.drop (4 * k) b).map b8)) rfl (by congr 1; first | rfl | (rw [List.take_of_length_le (by simp; omega)]; simp)) ?_
   refine L_op rfl (op_cn (fun w hw => high_f (List.drop (4 * k) b) 4 B5 (64 - (4 * k)) (c - (4 * k)) w (hok_cons ((src_rd 0 rfl) w hw) (hok_nil w)) sd sd sd) (enters_of Tryz.func113 kr rfl) rfl rfl rfl rfl rfl (fun t6 q7 => ?_))
   refine lO (pr_cv (cv64_32 _) Tryz.underlying23 Tryz.underlying61 rfl rfl) ?_
   refine lO (pr_ixa (j := k) (m' := k) sd oM Tryz.underlying132 (z := 1) kr rfl rfl rfl) ?_
   refine L_op rfl (op_store (vs := [(b32 ((high (List.drop (4 * k) b) 4).setWidth 32))]) (cs' := ((List.set (fil (schw b k) 64) k ((high (List.drop (4 * k) b) 4).setWidth 32)).map b32)) 1 rfl rfl kr (one_one rfl) (stl sd) (splice_map (f := b32) sd) rfl rfl rfl rfl ?_)
   refine L_nil ?_
   refine T_exit rfl ?_
   refine lR ?_
   refine lO (pr_add (na_i64 (a := k) (b := 1) sd) rfl rfl rfl) ?_
   refine lM ?_
   refine L_nil ?_
   refine T_as 0 _ (.blk g2 132 ((fil (schw b (k + 1)) 64).map b32)) rfl (by rw [schw_lo b k oM]) ?_
   exact T_again (k + 1) pN pN (sc rfl (sc rfl (sc rfl (sc rfl sn)))) [0, 2, 3] ⟨by decide, rfl⟩
  have hc_4 := of_decide_eq_false hc_4
  refine T_skip ?_
  refine T_seq ?_
  refine T_regD [.blk g2 132 ((fil (schw b k) 64).map b32), .blk g1 132 ((List.replicate 64 0#32).map b32), .rd A 1 64 c (b.map b8)] 10 10 #[false, false, false, false, false, false, false, false, false, false] hF kr kr ?_
  refine D_pure (i := 0) [0, 1, 2] rfl kr rfl (pr_move rfl rfl) (.inr rfl) rfl rfl ?_
  refine D_pure (i := 1) [0, 1, 2] rfl kr rfl (pr_sub (ns_i64 (a := k) (b := 15) sd sd) rfl rfl rfl) (.inr rfl) rfl rfl ?_
  refine D_pure (i := 2) [0, 1, 2] rfl kr rfl (pr_ixa (j := k - 15) (m' := k - 15) sd oM Tryz.underlying132 (z := 1) kr rfl rfl rfl) (.inr rfl) rfl rfl ?_
  refine D_pure (i := 4) [0, 1, 2] rfl kr rfl (pr_move rfl rfl) (.inr rfl) rfl rfl ?_
  refine D_pure (i := 5) [0, 1, 2] rfl kr rfl (pr_sub (ns_i64 (a := k) (b := 2) sd sd) rfl rfl rfl) (.inr rfl) rfl rfl ?_
  refine D_pure (i := 6) [0, 1, 2] rfl kr rfl (pr_ixa (j := k - 2) (m' := k - 2) sd oM Tryz.underlying132 (z := 1) kr rfl rfl rfl) (.inr rfl) rfl rfl ?_
  refine D_take (i := 3) [0, 1, 2] rfl kr rfl (ld_blk 0 rfl (get32 sd) Tryz.underlying61 rfl rfl rfl) rfl rfl rfl ?_
  refine D_pure (i := 8) [0, 1, 2] rfl kr rfl (pr_assign rfl rfl) (.inr rfl) rfl rfl ?_
  refine D_take (i := 7) [0, 1, 2] rfl kr rfl (ld_blk 0 rfl (get32 sd) Tryz.underlying61 rfl rfl rfl) rfl rfl rfl ?_
  refine D_pure (i := 9) [0, 1, 2] rfl kr rfl (pr_assign rfl rfl) (.inr rfl) rfl rfl ?_
  refine D_done kr ?_
  refine T_regD [.blk g2 132 ((fil (schw b k) 64).map b32), .blk g1 132 ((List.replicate 64 0#32).map b32), .rd A 1 64 c (b.map b8)] 29 30 #[false, false, false, false, false, false, false, false, false, false, false, false, false, false, false, false, false, false, false, false, false, false, false, false, false, false, false, false, false, false] hF kr kr ?_
  refine D_pure (i := 0) [0, 1, 2] rfl kr rfl (pr_move rfl rfl) (.inr rfl) rfl rfl ?_
  refine D_pure (i := 1) [0, 1, 2] rfl kr rfl (pr_move rfl rfl) (.inr rfl) rfl rfl ?_
  refine D_pure (i := 2) [0, 1, 2] rfl kr rfl (pr_sub (ns_i64 (a := k) (b := 16) sd sd) rfl rfl rfl) (.inr rfl) rfl rfl ?_
  refine D_pure (i := 3) [0, 1, 2] rfl kr rfl (pr_ixa (j := k - 16) (m' := k - 16) sd oM Tryz.underlying132 (z := 1) kr rfl rfl rfl) (.inr rfl) rfl rfl ?_
  refine D_pure (i := 5) [0, 1, 2] rfl kr rfl (pr_move rfl rfl) (.inr rfl) rfl rfl ?_
  refine D_pure (i := 7) [0, 1, 2] rfl kr rfl (pr_move rfl rfl) (.inr rfl) rfl rfl ?_
  refine D_pure (i := 10) [0, 1, 2] rfl kr rfl (pr_move rfl rfl) (.inr rfl) rfl rfl ?_
  refine D_pure (i := 11) [0, 1, 2] rfl kr rfl (pr_shift (sh_shr32 (ath (fil (schw b k) 64) (k - 15)) _ 3) rfl rfl rfl rfl) (.inr rfl) rfl rfl ?_
  refine D_pure (i := 14) [0, 1, 2] rfl kr rfl (pr_move rfl rfl) (.inr rfl) rfl rfl ?_
  refine D_pure (i := 15) [0, 1, 2] rfl kr rfl (pr_sub (ns_i64 (a := k) (b := 7) sd sd) rfl rfl rfl) (.inr rfl) rfl rfl ?_
  refine D_pure (i := 16) [0, 1, 2] rfl kr rfl (pr_ixa (j := k - 7) (m' := k - 7) sd oM Tryz.underlying132 (z := 1) kr rfl rfl rfl) (.inr rfl) rfl rfl ?_
  refine D_pure (i := 19) [0, 1, 2] rfl kr rfl (pr_move rfl rfl) (.inr rfl) rfl rfl ?_
  refine D_pure (i := 21) [0, 1, 2] rfl kr rfl (pr_move rfl rfl) (.inr rfl) rfl rfl ?_
  refine D_pure (i := 24) [0, 1, 2] rfl kr rfl (pr_move rfl rfl) (.inr rfl) rfl rfl ?_
  refine D_pure (i := 25) [0, 1, 2] rfl kr rfl (pr_shift (sh_shr32 (ath (fil (schw b k) 64) (k - 2)) _ 10) rfl rfl rfl rfl) (.inr rfl) rfl rfl ?_
  refine D_take (i := 4) [0, 1, 2] rfl kr rfl (ld_blk 0 rfl (get32 sd) Tryz.underlying61 rfl rfl rfl) rfl rfl rfl ?_
  refine D_take (i := 17) [0, 1, 2] rfl kr rfl (ld_blk 0 rfl (get32 sd) Tryz.underlying61 rfl rfl rfl) rfl rfl rfl ?_
  refine D_one 6 _ rfl kr rfl (op_cn (fun w hw => rotated_f (ath (fil (schw b k) 64) (k - 15)) 7 w (hok_nil w) sd sd) (enters_of Tryz.func112 kr rfl) rfl rfl rfl rfl rfl (fun t8 q9 => ?_))
  refine D_on [0, 1, 2] rfl ?_
  refine D_one 8 _ rfl kr rfl (op_cn (fun w hw => rotated_f (ath (fil (schw b k) 64) (k - 15)) 18 w (hok_nil w) sd sd) (enters_of Tryz.func112 kr rfl) rfl rfl rfl rfl rfl (fun t10 q11 => ?_))
  refine D_on [0, 1, 2] rfl ?_
  refine D_pure (i := 9) [0, 1, 2] rfl kr rfl (pr_xor (ib_xor32 _ _) rfl rfl rfl) (.inr rfl) rfl rfl ?_
  refine D_pure (i := 12) [0, 1, 2] rfl kr rfl (pr_xor (ib_xor32 _ _) rfl rfl rfl) (.inr rfl) rfl rfl ?_
  refine D_pure (i := 13) [0, 1, 2] rfl kr rfl (pr_add (add32 _ _) rfl rfl rfl) (.inr rfl) rfl rfl ?_
  refine D_pure (i := 18) [0, 1, 2] rfl kr rfl (pr_add (add32 _ _) rfl rfl rfl) (.inr rfl) rfl rfl ?_
  refine D_one 20 _ rfl kr rfl (op_cn (fun w hw => rotated_f (ath (fil (schw b k) 64) (k - 2)) 17 w (hok_nil w) sd sd) (enters_of Tryz.func112 kr rfl) rfl rfl rfl rfl rfl (fun t12 q13 => ?_))
  refine D_on [0, 1, 2] rfl ?_
  refine D_one 22 _ rfl kr rfl (op_cn (fun w hw => rotated_f (ath (fil (schw b k) 64) (k - 2)) 19 w (hok_nil w) sd sd) (enters_of Tryz.func112 kr rfl) rfl rfl rfl rfl rfl (fun t14 q15 => ?_))
  refine D_on [0, 1, 2] rfl ?_
  refine D_pure (i := 23) [0, 1, 2] rfl kr rfl (pr_xor (ib_xor32 _ _) rfl rfl rfl) (.inr rfl) rfl rfl ?_
  refine D_pure (i := 26) [0, 1, 2] rfl kr rfl (pr_xor (ib_xor32 _ _) rfl rfl rfl) (.inr rfl) rfl rfl ?_
  refine D_pure (i := 27) [0, 1, 2] rfl kr rfl (pr_add (add32 _ _) rfl rfl rfl) (.inr rfl) rfl rfl ?_
  refine D_pure (i := 28) [0, 1, 2] rfl kr rfl (pr_ixa (j := k) (m' := k) sd oM Tryz.underlying132 (z := 1) kr rfl rfl rfl) (.inr rfl) rfl rfl ?_
  refine D_one 29 _ rfl kr rfl (op_store (vs := [(b32 ((((ath (fil (schw b k) 64) (k - 16)) + (((ror32 (ath (fil (schw b k) 64) (k - 15)) 7) ^^^ (ror32 (ath (fil (schw b k) 64) (k - 15)) 18)) ^^^ ((ath (fil (schw b k) 64) (k - 15)) >>> 3))) + (ath (fil (schw b k) 64) (k - 7))) + (((ror32 (ath (fil (schw b k) 64) (k - 2)) 17) ^^^ (ror32 (ath (fil (schw b k) 64) (k - 2)) 19)) ^^^ ((ath (fil (schw b k) 64) (k - 2)) >>> 10))))]) (cs' := ((List.set (fil (schw b k) 64) k ((((ath (fil (schw b k) 64) (k - 16)) + (((ror32 (ath (fil (schw b k) 64) (k - 15)) 7) ^^^ (ror32 (ath (fil (schw b k) 64) (k - 15)) 18)) ^^^ ((ath (fil (schw b k) 64) (k - 15)) >>> 3))) + (ath (fil (schw b k) 64) (k - 7))) + (((ror32 (ath (fil (schw b k) 64) (k - 2)) 17) ^^^ (ror32 (ath (fil (schw b k) 64) (k - 2)) 19)) ^^^ ((ath (fil (schw b k) 64) (k - 2)) >>> 10)))).map b32)) 0 rfl rfl kr (one_one rfl) (stl sd) (splice_map (f := b32) sd) rfl rfl rfl rfl ?_)
  refine D_past kr ?_
  refine D_done kr ?_
  refine lR ?_
  refine lO (pr_add (na_i64 (a := k) (b := 1) sd) rfl rfl rfl) ?_
  refine lM ?_
  refine L_nil ?_
  refine T_as 0 _ (.blk g2 132 ((fil (schw b (k + 1)) 64).map b32)) rfl (by rw [sig0_def, sig1_def, schw_hi b k oM oM _ rfl]) ?_
  exact T_again (k + 1) pN pN (sc rfl (sc rfl (sc rfl (sc rfl sn)))) [0, 1, 2] ⟨by decide, rfl⟩
 have hc_3 := of_decide_eq_false hc_3
 refine T_exit rfl ?_
 refine lT ?_
 refine lQ (ld_agg (ds := ((fil (schw b k) 64).map b32)) 0 rfl agg_all Tryz.underlying132 rfl (fwz (n := 64) kr sd) rfl rfl) ?_
 refine L_op rfl (op_sto (n := 64) (vs := ((fil (schw b k) 64).map b32)) 1 rfl rfl kr (all32_one _) kr sd rfl rfl rfl rfl ?_)
 refine L_nil ?_
 refine T_ret ?_
 obtain rfl : 64 = k := by omega
 refine T_as 0 _ (.blk g1 132 ((schw b 64).map b32)) rfl (by rw [fil_all]) ?_
 exact T_fin () qN (resb 0 rfl rfl rfl Tryz.underlying132 rfl (fwz (n := 64) kr sd)) [] ⟨by decide, rfl⟩ rfl
set_option maxHeartbeats 4000000 in
theorem mixed_f (s : List (BitVec 32)) (gk : Nat) (b : List (BitVec 8)) (A : Option Addr) (c : Nat) (w : World) (hO : HOK [.rd (some ⟨gk, 0, none⟩) 1 64 64 (shaK.map b32), .rd A 1 64 c (b.map b8)] w) (hs : s.length = 8) (hb : b.length = 64) : Calls Tryz.prog 108 [(.agg (s.map b32).toArray), (.pointer (some ⟨gk, 0, none⟩)), (.slice A 64 c)].toArray w (Ret (T := Unit) [] w (fun _ => True) (fun _ => (.agg ((mixb s b).map b32).toArray)) (fun _ => [])) := by
 have hwl := schw_len b 64
 have hmx := (mixb_len s b).trans hs
 have hkl : shaK.length = 64 := shaK_len
 have hrl := rounds_len s (schw b 64) hs
 have hal := fun a k => (addt_len s a k).trans hs
 have hF : Wid Fence.wide := wid_wide
 refine enter (c := _) Tryz.func108 rfl [] _ [.rd (some ⟨gk, 0, none⟩) 1 64 64 (shaK.map b32), .rd A 1 64 c (b.map b8)] (by rw [Tryz.ntmps108]; rfl) (own_rds hO rfl) ?_
 rw [Tryz.ntmps108]
 refine lE [(0, (.agg (s.map b32).toArray)), (1, (.pointer (some ⟨gk, 0, none⟩))), (2, (.slice A 64 c))] ?_
 refine lH [0, 1] [.rd (some ⟨gk, 0, none⟩) 1 64 64 (shaK.map b32), .rd A 1 64 c (b.map b8)] ?_
 refine lT ?_
 refine L_op rfl (op_box (zs := (s.map b32)) rfl rfl rfl rfl rfl (fun g1 => ?_))
 refine L_op rfl (op_alloc (z := .agg [(b32 (0#32)), (b32 (0#32)), (b32 (0#32)), (b32 (0#32)), (b32 (0#32)), (b32 (0#32)), (b32 (0#32)), (b32 (0#32))].toArray) (zs := [(b32 (0#32)), (b32 (0#32)), (b32 (0#32)), (b32 (0#32)), (b32 (0#32)), (b32 (0#32)), (b32 (0#32)), (b32 (0#32))]) kr rfl rfl rfl rfl (fun g2 => ?_))
 refine L_nil ?_
 refine T_seq ?_
 refine T_regD [.blk g2 134 [(b32 (0#32)), (b32 (0#32)), (b32 (0#32)), (b32 (0#32)), (b32 (0#32)), (b32 (0#32)), (b32 (0#32)), (b32 (0#32))], .blk g1 134 (s.map b32), .rd (some ⟨gk, 0, none⟩) 1 64 64 (shaK.map b32), .rd A 1 64 c (b.map b8)] 7 7 #[false, false, false, false, false, false, false] hF kr kr ?_
 refine D_pure (i := 1) [0, 1, 2, 3] rfl kr rfl (pr_move rfl rfl) (.inr rfl) rfl rfl ?_
 refine D_take (i := 0) [0, 1, 2, 3] rfl kr rfl (ld_agg (ds := (s.map b32)) 1 rfl agg_all Tryz.underlying134 rfl (fwz (n := 8) kr sd) rfl rfl) rfl rfl rfl ?_
 refine D_join (T := Nat × Nat) (fun _ => True) (fun ⟨g5, g6⟩ => [(1, (.pointer (some ⟨gk, 0, none⟩))), (3, (.pointer (some ⟨g1, 0, none⟩))), (6, (.pointer (some ⟨g2, 0, none⟩))), (7, (.pointer (some ⟨g5, 0, none⟩))), (8, (.pointer (some ⟨g6, 0, none⟩)))]) (fun ⟨g5, g6⟩ => [.blk g6 132 ((schw b 64).map b32), .blk g5 134 (s.map b32), .blk g2 134 [(b32 (0#32)), (b32 (0#32)), (b32 (0#32)), (b32 (0#32)), (b32 (0#32)), (b32 (0#32)), (b32 (0#32)), (b32 (0#32))], .blk g1 134 (s.map b32), .rd (some ⟨gk, 0, none⟩) 1 64 64 (shaK.map b32), .rd A 1 64 c (b.map b8)]) ?_ ?_
 ·refine D_all [2, 3, 4] kr (by simp) ⟨⟨_, rfl, rfl, ?_⟩, ⟨_, rfl, rfl, ?_⟩, ⟨_, rfl, rfl, ?_⟩, trivial⟩
  ·refine id (op_cn (fun w hw => schedule_f b A c w (hok_cons ((src_rd 3 rfl) w hw) (hok_nil w)) sd) (enters_of Tryz.func111 kr rfl) rfl rfl rfl rfl rfl (fun t7 q8 => ?_))
   refine D_on [0, 1, 2, 3] rfl ?_
   refine D_all [3, 4] kr (by simp) ⟨⟨_, rfl, rfl, ?_⟩, ⟨_, rfl, rfl, ?_⟩, trivial⟩
   ·refine id (op_alloc (z := .agg [(b32 (0#32)), (b32 (0#32)), (b32 (0#32)), (b32 (0#32)), (b32 (0#32)), (b32 (0#32)), (b32 (0#32)), (b32 (0#32))].toArray) (zs := [(b32 (0#32)), (b32 (0#32)), (b32 (0#32)), (b32 (0#32)), (b32 (0#32)), (b32 (0#32)), (b32 (0#32)), (b32 (0#32))]) kr rfl rfl rfl rfl (fun g9 => ?_))
    refine D_on [1, 2, 3, 4] rfl ?_
    refine D_one 4 _ rfl kr rfl (op_alloc (z := .agg ((List.replicate 64 0#32).map b32).toArray) (zs := ((List.replicate 64 0#32).map b32)) kr rfl rfl rfl rfl (fun g10 => ?_))
    refine D_on [2, 3, 4, 5] rfl ?_
    refine D_one 5 _ rfl kr rfl (op_sto (n := 8) (vs := (s.map b32)) 1 rfl rfl kr (all32_one _) kr sd rfl rfl rfl rfl ?_)
    refine D_on [2, 3, 4, 5] rfl ?_
    refine D_one 6 _ rfl kr rfl (op_sto (n := 64) (vs := ((schw b 64).map b32)) 1 rfl rfl kr (all32_one _) kr sd rfl rfl rfl rfl ?_)
    refine D_on [2, 3, 4, 5] rfl ?_
    refine D_done kr ?_
    exact T_meet (g9, g10) trivial (sc rfl (sc rfl (sc rfl (sc rfl (sc rfl sn))))) [0, 1, 2, 3, 4, 5] ⟨by decide, rfl⟩
   refine id (op_alloc (z := .agg ((List.replicate 64 0#32).map b32).toArray) (zs := ((List.replicate 64 0#32).map b32)) kr rfl rfl rfl rfl (fun g11 => ?_))
   refine D_on [1, 2, 3, 4] rfl ?_
   refine D_one 3 _ rfl kr rfl (op_alloc (z := .agg [(b32 (0#32)), (b32 (0#32)), (b32 (0#32)), (b32 (0#32)), (b32 (0#32)), (b32 (0#32)), (b32 (0#32)), (b32 (0#32))].toArray) (zs := [(b32 (0#32)), (b32 (0#32)), (b32 (0#32)), (b32 (0#32)), (b32 (0#32)), (b32 (0#32)), (b32 (0#32)), (b32 (0#32))]) kr rfl rfl rfl rfl (fun g12 => ?_))
   refine D_on [2, 3, 4, 5] rfl ?_
   refine D_one 5 _ rfl kr rfl (op_sto (n := 8) (vs := (s.map b32)) 0 rfl rfl kr (all32_one _) kr sd rfl rfl rfl rfl ?_)
   refine D_on [2, 3, 4, 5] rfl ?_
   refine D_one 6 _ rfl kr rfl (op_sto (n := 64) (vs := ((schw b 64).map b32)) 1 rfl rfl kr (all32_one _) kr sd rfl rfl rfl rfl ?_)
   refine D_on [2, 3, 4, 5] rfl ?_
   refine D_done kr ?_
   exact T_meet (g12, g11) trivial (sc rfl (sc rfl (sc rfl (sc rfl (sc rfl sn))))) [0, 1, 2, 3, 4, 5] ⟨by decide, rfl⟩
  ·refine id (op_alloc (z := .agg [(b32 (0#32)), (b32 (0#32)), (b32 (0#32)), (b32 (0#32)), (b32 (0#32)), (b32 (0#32)), (b32 (0#32)), (b32 (0#32))].toArray) (zs := [(b32 (0#32)), (b32 (0#32)), (b32 (0#32)), (b32 (0#32)), (b32 (0#32)), (b32 (0#32)), (b32 (0#32)), (b32 (0#32))]) kr rfl rfl rfl rfl (fun g13 => ?_))
   refine D_on [1, 2, 3, 4] rfl ?_
   refine D_all [2, 4] kr (by simp) ⟨⟨_, rfl, rfl, ?_⟩, ⟨_, rfl, rfl, ?_⟩, trivial⟩
   ·refine id (op_cn (fun w hw => schedule_f b A c w (hok_cons ((src_rd 4 rfl) w hw) (hok_nil w)) sd) (enters_of Tryz.func111 kr rfl) rfl rfl rfl rfl rfl (fun t14 q15 => ?_))
    refine D_on [1, 2, 3, 4] rfl ?_
    refine D_one 4 _ rfl kr rfl (op_alloc (z := .agg ((List.replicate 64 0#32).map b32).toArray) (zs := ((List.replicate 64 0#32).map b32)) kr rfl rfl rfl rfl (fun g16 => ?_))
    refine D_on [2, 3, 4, 5] rfl ?_
    refine D_one 5 _ rfl kr rfl (op_sto (n := 8) (vs := (s.map b32)) 1 rfl rfl kr (all32_one _) kr sd rfl rfl rfl rfl ?_)
    refine D_on [2, 3, 4, 5] rfl ?_
    refine D_one 6 _ rfl kr rfl (op_sto (n := 64) (vs := ((schw b 64).map b32)) 1 rfl rfl kr (all32_one _) kr sd rfl rfl rfl rfl ?_)
    refine D_on [2, 3, 4, 5] rfl ?_
    refine D_done kr ?_
    exact T_meet (g13, g16) trivial (sc rfl (sc rfl (sc rfl (sc rfl (sc rfl sn))))) [0, 1, 2, 3, 4, 5] ⟨by decide, rfl⟩
   refine id (op_alloc (z := .agg ((List.replicate 64 0#32).map b32).toArray) (zs := ((List.replicate 64 0#32).map b32)) kr rfl rfl rfl rfl (fun g17 => ?_))
   refine D_on [2, 3, 4, 5] rfl ?_
   refine D_one 2 _ rfl kr rfl (op_cn (fun w hw => schedule_f b A c w (hok_cons ((src_rd 5 rfl) w hw) (hok_nil w)) sd) (enters_of Tryz.func111 kr rfl) rfl rfl rfl rfl rfl (fun t18 q19 => ?_))
   refine D_on [2, 3, 4, 5] rfl ?_
   refine D_one 5 _ rfl kr rfl (op_sto (n := 8) (vs := (s.map b32)) 1 rfl rfl kr (all32_one _) kr sd rfl rfl rfl rfl ?_)
   refine D_on [2, 3, 4, 5] rfl ?_
   refine D_one 6 _ rfl kr rfl (op_sto (n := 64) (vs := ((schw b 64).map b32)) 1 rfl rfl kr (all32_one _) kr sd rfl rfl rfl rfl ?_)
   refine D_on [2, 3, 4, 5] rfl ?_
   refine D_done kr ?_
   exact T_meet (g13, g17) trivial (sc rfl (sc rfl (sc rfl (sc rfl (sc rfl sn))))) [0, 1, 2, 3, 4, 5] ⟨by decide, rfl⟩
  refine id (op_alloc (z := .agg ((List.replicate 64 0#32).map b32).toArray) (zs := ((List.replicate 64 0#32).map b32)) kr rfl rfl rfl rfl (fun g20 => ?_))
  refine D_on [1, 2, 3, 4] rfl ?_
  refine D_all [2, 3] kr (by simp) ⟨⟨_, rfl, rfl, ?_⟩, ⟨_, rfl, rfl, ?_⟩, trivial⟩
  ·refine id (op_cn (fun w hw => schedule_f b A c w (hok_cons ((src_rd 4 rfl) w hw) (hok_nil w)) sd) (enters_of Tryz.func111 kr rfl) rfl rfl rfl rfl rfl (fun t21 q22 => ?_))
   refine D_on [1, 2, 3, 4] rfl ?_
   refine D_one 3 _ rfl kr rfl (op_alloc (z := .agg [(b32 (0#32)), (b32 (0#32)), (b32 (0#32)), (b32 (0#32)), (b32 (0#32)), (b32 (0#32)), (b32 (0#32)), (b32 (0#32))].toArray) (zs := [(b32 (0#32)), (b32 (0#32)), (b32 (0#32)), (b32 (0#32)), (b32 (0#32)), (b32 (0#32)), (b32 (0#32)), (b32 (0#32))]) kr rfl rfl rfl rfl (fun g23 => ?_))
   refine D_on [2, 3, 4, 5] rfl ?_
   refine D_one 5 _ rfl kr rfl (op_sto (n := 8) (vs := (s.map b32)) 0 rfl rfl kr (all32_one _) kr sd rfl rfl rfl rfl ?_)
   refine D_on [2, 3, 4, 5] rfl ?_
   refine D_one 6 _ rfl kr rfl (op_sto (n := 64) (vs := ((schw b 64).map b32)) 1 rfl rfl kr (all32_one _) kr sd rfl rfl rfl rfl ?_)
   refine D_on [2, 3, 4, 5] rfl ?_
   refine D_done kr ?_
   exact T_meet (g23, g20) trivial (sc rfl (sc rfl (sc rfl (sc rfl (sc rfl sn))))) [0, 1, 2, 3, 4, 5] ⟨by decide, rfl⟩
  refine id (op_alloc (z := .agg [(b32 (0#32)), (b32 (0#32)), (b32 (0#32)), (b32 (0#32)), (b32 (0#32)), (b32 (0#32)), (b32 (0#32)), (b32 (0#32))].toArray) (zs := [(b32 (0#32)), (b32 (0#32)), (b32 (0#32)), (b32 (0#32)), (b32 (0#32)), (b32 (0#32)), (b32 (0#32)), (b32 (0#32))]) kr rfl rfl rfl rfl (fun g24 => ?_))
  refine D_on [2, 3, 4, 5] rfl ?_
  refine D_one 2 _ rfl kr rfl (op_cn (fun w hw => schedule_f b A c w (hok_cons ((src_rd 5 rfl) w hw) (hok_nil w)) sd) (enters_of Tryz.func111 kr rfl) rfl rfl rfl rfl rfl (fun t25 q26 => ?_))
  refine D_on [2, 3, 4, 5] rfl ?_
  refine D_one 5 _ rfl kr rfl (op_sto (n := 8) (vs := (s.map b32)) 0 rfl rfl kr (all32_one _) kr sd rfl rfl rfl rfl ?_)
  refine D_on [2, 3, 4, 5] rfl ?_
  refine D_one 6 _ rfl kr rfl (op_sto (n := 64) (vs := ((schw b 64).map b32)) 1 rfl rfl kr (all32_one _) kr sd rfl rfl rfl rfl ?_)
  refine D_on [2, 3, 4, 5] rfl ?_
  refine D_done kr ?_
  exact T_meet (g24, g20) trivial (sc rfl (sc rfl (sc rfl (sc rfl (sc rfl sn))))) [0, 1, 2, 3, 4, 5] ⟨by decide, rfl⟩
 rintro ⟨g5, g6⟩ -
 refine lE [(1, (.pointer (some ⟨gk, 0, none⟩))), (3, (.pointer (some ⟨g1, 0, none⟩))), (6, (.pointer (some ⟨g2, 0, none⟩))), (7, (.pointer (some ⟨g5, 0, none⟩))), (8, (.pointer (some ⟨g6, 0, none⟩)))] ?_
 refine lH [0, 1, 2, 3, 4, 5] [.blk g6 132 ((schw b 64).map b32), .blk g5 134 (s.map b32), .blk g2 134 [(b32 (0#32)), (b32 (0#32)), (b32 (0#32)), (b32 (0#32)), (b32 (0#32)), (b32 (0#32)), (b32 (0#32)), (b32 (0#32))], .blk g1 134 (s.map b32), .rd (some ⟨gk, 0, none⟩) 1 64 64 (shaK.map b32), .rd A 1 64 c (b.map b8)] ?_
 refine T_seq ?_
 refine lT ?_
 refine lM ?_
 refine L_nil ?_
 refine T_block ?_
 refine T_as 1 _ (.blk g5 134 ((rounds s (schw b 64) 0).map b32)) rfl (by rw [rounds_zero]) ?_
 refine T_loop (T := Nat) (fun k => k ≤ 64) (fun k => [(1, (.pointer (some ⟨gk, 0, none⟩))), (3, (.pointer (some ⟨g1, 0, none⟩))), (6, (.pointer (some ⟨g2, 0, none⟩))), (7, (.pointer (some ⟨g5, 0, none⟩))), (8, (.pointer (some ⟨g6, 0, none⟩))), (18, (.int .i64 ((k : Nat) : Int)))]) (fun k => [.blk g6 132 ((schw b 64).map b32), .blk g5 134 ((rounds s (schw b 64) k).map b32), .blk g2 134 [(b32 (0#32)), (b32 (0#32)), (b32 (0#32)), (b32 (0#32)), (b32 (0#32)), (b32 (0#32)), (b32 (0#32)), (b32 (0#32))], .blk g1 134 (s.map b32), .rd (some ⟨gk, 0, none⟩) 1 64 64 (shaK.map b32), .rd A 1 64 c (b.map b8)]) (fun k => 64 - k) 0 pN (sc rfl (sc rfl (sc rfl (sc rfl (sc rfl (sc rfl sn)))))) [1, 0, 2, 3, 4, 5] ⟨by decide, rfl⟩ ?_
 rintro k hp
 have hp : k ≤ 64 := hp
 have hrk := hrl k
 refine lE [(1, (.pointer (some ⟨gk, 0, none⟩))), (3, (.pointer (some ⟨g1, 0, none⟩))), (6, (.pointer (some ⟨g2, 0, none⟩))), (7, (.pointer (some ⟨g5, 0, none⟩))), (8, (.pointer (some ⟨g6, 0, none⟩))), (18, (.int .i64 ((k : Nat) : Int)))] ?_
 refine lH [0, 1, 2, 3, 4, 5] [.blk g6 132 ((schw b 64).map b32), .blk g5 134 ((rounds s (schw b 64) k).map b32), .blk g2 134 [(b32 (0#32)), (b32 (0#32)), (b32 (0#32)), (b32 (0#32)), (b32 (0#32)), (b32 (0#32)), (b32 (0#32)), (b32 (0#32))], .blk g1 134 (s.map b32), .rd (some ⟨gk, 0, none⟩) 1 64 64 (shaK.map b32), .rd A 1 64 c (b.map b8)] ?_
 refine lT ?_
 refine lO (pr_cmp (bo := .lss) (nc_lt (a := k) (b := 64)) rfl rfl rfl rfl) ?_
 refine L_nil ?_
 refine T_seq ?_
 refine T_cond (decide (k < 64)) rfl (fun hc_27 => ?_) (fun hc_27 => ?_)
 ·have hc_27 := of_decide_eq_true hc_27
  refine T_skip ?_
  refine T_seq ?_
  refine T_block ?_
  refine lT ?_
  refine lM ?_
  refine lS ?_
  refine L_nil ?_
  refine T_seq ?_
  refine T_regD [.blk g6 132 ((schw b 64).map b32), .blk g5 134 ((rounds s (schw b 64) k).map b32), .blk g2 134 [(b32 (0#32)), (b32 (0#32)), (b32 (0#32)), (b32 (0#32)), (b32 (0#32)), (b32 (0#32)), (b32 (0#32)), (b32 (0#32))], .blk g1 134 (s.map b32), .rd (some ⟨gk, 0, none⟩) 1 64 64 (shaK.map b32), .rd A 1 64 c (b.map b8)] 12 12 #[false, false, false, false, false, false, false, false, false, false, false, false] hF kr kr ?_
  refine D_pure (i := 0) [0, 1, 2, 3, 4, 5] rfl kr rfl (pr_ixa (j := 4) (m' := 4) sd oM Tryz.underlying134 (z := 1) kr rfl rfl rfl) (.inr rfl) rfl rfl ?_
  refine D_pure (i := 3) [0, 1, 2, 3, 4, 5] rfl kr rfl (pr_ixa (j := 4) (m' := 4) sd oM Tryz.underlying134 (z := 1) kr rfl rfl rfl) (.inr rfl) rfl rfl ?_
  refine D_pure (i := 7) [0, 1, 2, 3, 4, 5] rfl kr rfl (pr_ixa (j := 4) (m' := 4) sd oM Tryz.underlying134 (z := 1) kr rfl rfl rfl) (.inr rfl) rfl rfl ?_
  refine D_take (i := 1) [0, 1, 2, 3, 4, 5] rfl kr rfl (ld_blk 1 rfl (get32 sd) Tryz.underlying61 rfl rfl rfl) rfl rfl rfl ?_
  refine D_take (i := 4) [0, 1, 2, 3, 4, 5] rfl kr rfl (ld_blk 1 rfl (get32 sd) Tryz.underlying61 rfl rfl rfl) rfl rfl rfl ?_
  refine D_take (i := 8) [0, 1, 2, 3, 4, 5] rfl kr rfl (ld_blk 1 rfl (get32 sd) Tryz.underlying61 rfl rfl rfl) rfl rfl rfl ?_
  refine D_one 2 _ rfl kr rfl (op_cn (fun w hw => rotated_f (ath (rounds s (schw b 64) k) 4) 6 w (hok_nil w) sd sd) (enters_of Tryz.func112 kr rfl) rfl rfl rfl rfl rfl (fun t28 q29 => ?_))
  refine D_on [0, 1, 2, 3, 4, 5] rfl ?_
  refine D_one 5 _ rfl kr rfl (op_cn (fun w hw => rotated_f (ath (rounds s (schw b 64) k) 4) 11 w (hok_nil w) sd sd) (enters_of Tryz.func112 kr rfl) rfl rfl rfl rfl rfl (fun t30 q31 => ?_))
  refine D_on [0, 1, 2, 3, 4, 5] rfl ?_
  refine D_pure (i := 6) [0, 1, 2, 3, 4, 5] rfl kr rfl (pr_xor (ib_xor32 _ _) rfl rfl rfl) (.inr rfl) rfl rfl ?_
  refine D_one 9 _ rfl kr rfl (op_cn (fun w hw => rotated_f (ath (rounds s (schw b 64) k) 4) 25 w (hok_nil w) sd sd) (enters_of Tryz.func112 kr rfl) rfl rfl rfl rfl rfl (fun t32 q33 => ?_))
  refine D_on [0, 1, 2, 3, 4, 5] rfl ?_
  refine D_pure (i := 10) [0, 1, 2, 3, 4, 5] rfl kr rfl (pr_xor (ib_xor32 _ _) rfl rfl rfl) (.inr rfl) rfl rfl ?_
  refine D_pure (i := 11) [0, 1, 2, 3, 4, 5] rfl kr rfl (pr_assign rfl rfl) (.inr rfl) rfl rfl ?_
  refine D_done kr ?_
  refine T_seq ?_
  refine T_regD [.blk g6 132 ((schw b 64).map b32), .blk g5 134 ((rounds s (schw b 64) k).map b32), .blk g2 134 [(b32 (0#32)), (b32 (0#32)), (b32 (0#32)), (b32 (0#32)), (b32 (0#32)), (b32 (0#32)), (b32 (0#32)), (b32 (0#32))], .blk g1 134 (s.map b32), .rd (some ⟨gk, 0, none⟩) 1 64 64 (shaK.map b32), .rd A 1 64 c (b.map b8)] 12 12 #[false, false, false, false, false, false, false, false, false, false, false, false] hF kr kr ?_
  refine D_pure (i := 0) [0, 1, 2, 3, 4, 5] rfl kr rfl (pr_ixa (j := 0) (m' := 0) sd oM Tryz.underlying134 (z := 1) kr rfl rfl rfl) (.inr rfl) rfl rfl ?_
  refine D_pure (i := 3) [0, 1, 2, 3, 4, 5] rfl kr rfl (pr_ixa (j := 0) (m' := 0) sd oM Tryz.underlying134 (z := 1) kr rfl rfl rfl) (.inr rfl) rfl rfl ?_
  refine D_pure (i := 7) [0, 1, 2, 3, 4, 5] rfl kr rfl (pr_ixa (j := 0) (m' := 0) sd oM Tryz.underlying134 (z := 1) kr rfl rfl rfl) (.inr rfl) rfl rfl ?_
  refine D_take (i := 1) [0, 1, 2, 3, 4, 5] rfl kr rfl (ld_blk 1 rfl (get32 sd) Tryz.underlying61 rfl rfl rfl) rfl rfl rfl ?_
  refine D_take (i := 4) [0, 1, 2, 3, 4, 5] rfl kr rfl (ld_blk 1 rfl (get32 sd) Tryz.underlying61 rfl rfl rfl) rfl rfl rfl ?_
  refine D_take (i := 8) [0, 1, 2, 3, 4, 5] rfl kr rfl (ld_blk 1 rfl (get32 sd) Tryz.underlying61 rfl rfl rfl) rfl rfl rfl ?_
  refine D_one 2 _ rfl kr rfl (op_cn (fun w hw => rotated_f (ath (rounds s (schw b 64) k) 0) 2 w (hok_nil w) sd sd) (enters_of Tryz.func112 kr rfl) rfl rfl rfl rfl rfl (fun t34 q35 => ?_))
  refine D_on [0, 1, 2, 3, 4, 5] rfl ?_
  refine D_one 5 _ rfl kr rfl (op_cn (fun w hw => rotated_f (ath (rounds s (schw b 64) k) 0) 13 w (hok_nil w) sd sd) (enters_of Tryz.func112 kr rfl) rfl rfl rfl rfl rfl (fun t36 q37 => ?_))
  refine D_on [0, 1, 2, 3, 4, 5] rfl ?_
  refine D_pure (i := 6) [0, 1, 2, 3, 4, 5] rfl kr rfl (pr_xor (ib_xor32 _ _) rfl rfl rfl) (.inr rfl) rfl rfl ?_
  refine D_one 9 _ rfl kr rfl (op_cn (fun w hw => rotated_f (ath (rounds s (schw b 64) k) 0) 22 w (hok_nil w) sd sd) (enters_of Tryz.func112 kr rfl) rfl rfl rfl rfl rfl (fun t38 q39 => ?_))
  refine D_on [0, 1, 2, 3, 4, 5] rfl ?_
  refine D_pure (i := 10) [0, 1, 2, 3, 4, 5] rfl kr rfl (pr_xor (ib_xor32 _ _) rfl rfl rfl) (.inr rfl) rfl rfl ?_
  refine D_pure (i := 11) [0, 1, 2, 3, 4, 5] rfl kr rfl (pr_assign rfl rfl) (.inr rfl) rfl rfl ?_
  refine D_done kr ?_
  refine T_seq ?_
  refine T_regD [.blk g6 132 ((schw b 64).map b32), .blk g5 134 ((rounds s (schw b 64) k).map b32), .blk g2 134 [(b32 (0#32)), (b32 (0#32)), (b32 (0#32)), (b32 (0#32)), (b32 (0#32)), (b32 (0#32)), (b32 (0#32)), (b32 (0#32))], .blk g1 134 (s.map b32), .rd (some ⟨gk, 0, none⟩) 1 64 64 (shaK.map b32), .rd A 1 64 c (b.map b8)] 28 28 #[false, false, false, false, false, false, false, false, false, false, false, false, false, false, false, false, false, false, false, false, false, false, false, false, false, false, false, false] hF kr kr ?_
  refine D_pure (i := 0) [0, 1, 2, 3, 4, 5] rfl kr rfl (pr_ixa (j := 7) (m' := 7) sd oM Tryz.underlying134 (z := 1) kr rfl rfl rfl) (.inr rfl) rfl rfl ?_
  refine D_pure (i := 2) [0, 1, 2, 3, 4, 5] rfl kr rfl (pr_move rfl rfl) (.inr rfl) rfl rfl ?_
  refine D_pure (i := 4) [0, 1, 2, 3, 4, 5] rfl kr rfl (pr_ixa (j := 4) (m' := 4) sd oM Tryz.underlying134 (z := 1) kr rfl rfl rfl) (.inr rfl) rfl rfl ?_
  refine D_pure (i := 6) [0, 1, 2, 3, 4, 5] rfl kr rfl (pr_ixa (j := 5) (m' := 5) sd oM Tryz.underlying134 (z := 1) kr rfl rfl rfl) (.inr rfl) rfl rfl ?_
  refine D_pure (i := 9) [0, 1, 2, 3, 4, 5] rfl kr rfl (pr_ixa (j := 4) (m' := 4) sd oM Tryz.underlying134 (z := 1) kr rfl rfl rfl) (.inr rfl) rfl rfl ?_
  refine D_pure (i := 12) [0, 1, 2, 3, 4, 5] rfl kr rfl (pr_ixa (j := 6) (m' := 6) sd oM Tryz.underlying134 (z := 1) kr rfl rfl rfl) (.inr rfl) rfl rfl ?_
  refine D_pure (i := 17) [0, 1, 2, 3, 4, 5] rfl kr rfl (pr_move rfl rfl) (.inr rfl) rfl rfl ?_
  refine D_pure (i := 18) [0, 1, 2, 3, 4, 5] rfl kr rfl (pr_move rfl rfl) (.inr rfl) rfl rfl ?_
  refine D_pure (i := 19) [0, 1, 2, 3, 4, 5] rfl kr rfl (pr_nilck rfl rfl) (.inr rfl) rfl rfl ?_
  refine D_pure (i := 20) [0, 1, 2, 3, 4, 5] rfl kr rfl (pr_ixa (j := k) (m' := k) sd oM Tryz.underlying132 (z := 1) kr rfl rfl rfl) (.inr rfl) rfl rfl ?_
  refine D_pure (i := 23) [0, 1, 2, 3, 4, 5] rfl kr rfl (pr_move rfl rfl) (.inr rfl) rfl rfl ?_
  refine D_pure (i := 24) [0, 1, 2, 3, 4, 5] rfl kr rfl (pr_ixa (j := k) (m' := k) sd oM Tryz.underlying132 (z := 1) kr rfl rfl rfl) (.inr rfl) rfl rfl ?_
  refine D_take (i := 1) [0, 1, 2, 3, 4, 5] rfl kr rfl (ld_blk 1 rfl (get32 sd) Tryz.underlying61 rfl rfl rfl) rfl rfl rfl ?_
  refine D_pure (i := 3) [0, 1, 2, 3, 4, 5] rfl kr rfl (pr_add (add32 _ _) rfl rfl rfl) (.inr rfl) rfl rfl ?_
  refine D_take (i := 5) [0, 1, 2, 3, 4, 5] rfl kr rfl (ld_blk 1 rfl (get32 sd) Tryz.underlying61 rfl rfl rfl) rfl rfl rfl ?_
  refine D_take (i := 7) [0, 1, 2, 3, 4, 5] rfl kr rfl (ld_blk 1 rfl (get32 sd) Tryz.underlying61 rfl rfl rfl) rfl rfl rfl ?_
  refine D_pure (i := 8) [0, 1, 2, 3, 4, 5] rfl kr rfl (pr_and (ib_and32 _ _) rfl rfl rfl) (.inr rfl) rfl rfl ?_
  refine D_take (i := 10) [0, 1, 2, 3, 4, 5] rfl kr rfl (ld_blk 1 rfl (get32 sd) Tryz.underlying61 rfl rfl rfl) rfl rfl rfl ?_
  refine D_pure (i := 11) [0, 1, 2, 3, 4, 5] rfl kr rfl (pr_un (not32 _) rfl rfl) (.inr rfl) rfl rfl ?_
  refine D_take (i := 13) [0, 1, 2, 3, 4, 5] rfl kr rfl (ld_blk 1 rfl (get32 sd) Tryz.underlying61 rfl rfl rfl) rfl rfl rfl ?_
  refine D_pure (i := 14) [0, 1, 2, 3, 4, 5] rfl kr rfl (pr_and (ib_and32 _ _) rfl rfl rfl) (.inr rfl) rfl rfl ?_
  refine D_pure (i := 15) [0, 1, 2, 3, 4, 5] rfl kr rfl (pr_xor (ib_xor32 _ _) rfl rfl rfl) (.inr rfl) rfl rfl ?_
  refine D_pure (i := 16) [0, 1, 2, 3, 4, 5] rfl kr rfl (pr_add (add32 _ _) rfl rfl rfl) (.inr rfl) rfl rfl ?_
  refine D_take (i := 21) [0, 1, 2, 3, 4, 5] rfl kr rfl (ld_rdb (src_rd 4 rfl) (get32 sd) Tryz.underlying61 rfl rfl rfl) rfl rfl rfl ?_
  refine D_pure (i := 22) [0, 1, 2, 3, 4, 5] rfl kr rfl (pr_add (add32 _ _) rfl rfl rfl) (.inr rfl) rfl rfl ?_
  refine D_take (i := 25) [0, 1, 2, 3, 4, 5] rfl kr rfl (ld_blk 0 rfl (get32 sd) Tryz.underlying61 rfl rfl rfl) rfl rfl rfl ?_
  refine D_pure (i := 26) [0, 1, 2, 3, 4, 5] rfl kr rfl (pr_add (add32 _ _) rfl rfl rfl) (.inr rfl) rfl rfl ?_
  refine D_pure (i := 27) [0, 1, 2, 3, 4, 5] rfl kr rfl (pr_assign rfl rfl) (.inr rfl) rfl rfl ?_
  refine D_done kr ?_
  refine lT ?_
  refine lM ?_
  refine lO (pr_ixa (j := 0) (m' := 0) sd oM Tryz.underlying134 (z := 1) kr rfl rfl rfl) ?_
  refine lQ (ld_blk 1 rfl (get32 sd) Tryz.underlying61 rfl rfl rfl) ?_
  refine lO (pr_ixa (j := 1) (m' := 1) sd oM Tryz.underlying134 (z := 1) kr rfl rfl rfl) ?_
  refine lQ (ld_blk 1 rfl (get32 sd) Tryz.underlying61 rfl rfl rfl) ?_
  refine lO (pr_and (ib_and32 _ _) rfl rfl rfl) ?_
  refine lO (pr_ixa (j := 0) (m' := 0) sd oM Tryz.underlying134 (z := 1) kr rfl rfl rfl) ?_
  refine lQ (ld_blk 1 rfl (get32 sd) Tryz.underlying61 rfl rfl rfl) ?_
  refine lO (pr_ixa (j := 2) (m' := 2) sd oM Tryz.underlying134 (z := 1) kr rfl rfl rfl) ?_
  refine lQ (ld_blk 1 rfl (get32 sd) Tryz.underlying61 rfl rfl rfl) ?_
  refine lO (pr_and (ib_and32 _ _) rfl rfl rfl) ?_
  refine lO (pr_xor (ib_xor32 _ _) rfl rfl rfl) ?_
  refine lO (pr_ixa (j := 1) (m' := 1) sd oM Tryz.underlying134 (z := 1) kr rfl rfl rfl) ?_
  refine lQ (ld_blk 1 rfl (get32 sd) Tryz.underlying61 rfl rfl rfl) ?_
  refine lO (pr_ixa (j := 2) (m' := 2) sd oM Tryz.underlying134 (z := 1) kr rfl rfl rfl) ?_
  refine lQ (ld_blk 1 rfl (get32 sd) Tryz.underlying61 rfl rfl rfl) ?_
  refine lO (pr_and (ib_and32 _ _) rfl rfl rfl) ?_
  refine lO (pr_xor (ib_xor32 _ _) rfl rfl rfl) ?_
  refine lO (pr_add (add32 _ _) rfl rfl rfl) ?_
  refine lS ?_
  refine L_nil ?_
  refine lR ?_
  refine lM ?_
  refine lM ?_
  refine lO (pr_add (add32 _ _) rfl rfl rfl) ?_
  refine lO (pr_ixa (j := 0) (m' := 0) sd oM Tryz.underlying134 (z := 1) kr rfl rfl rfl) ?_
  refine lQ (ld_blk 1 rfl (get32 sd) Tryz.underlying61 rfl rfl rfl) ?_
  refine lO (pr_ixa (j := 1) (m' := 1) sd oM Tryz.underlying134 (z := 1) kr rfl rfl rfl) ?_
  refine lQ (ld_blk 1 rfl (get32 sd) Tryz.underlying61 rfl rfl rfl) ?_
  refine lO (pr_ixa (j := 2) (m' := 2) sd oM Tryz.underlying134 (z := 1) kr rfl rfl rfl) ?_
  refine lQ (ld_blk 1 rfl (get32 sd) Tryz.underlying61 rfl rfl rfl) ?_
  refine lO (pr_ixa (j := 3) (m' := 3) sd oM Tryz.underlying134 (z := 1) kr rfl rfl rfl) ?_
  refine lQ (ld_blk 1 rfl (get32 sd) Tryz.underlying61 rfl rfl rfl) ?_
  refine lM ?_
  refine lO (pr_add (add32 _ _) rfl rfl rfl) ?_
  refine lO (pr_ixa (j := 4) (m' := 4) sd oM Tryz.underlying134 (z := 1) kr rfl rfl rfl) ?_
  refine lQ (ld_blk 1 rfl (get32 sd) Tryz.underlying61 rfl rfl rfl) ?_
  refine lO (pr_ixa (j := 5) (m' := 5) sd oM Tryz.underlying134 (z := 1) kr rfl rfl rfl) ?_
  refine lQ (ld_blk 1 rfl (get32 sd) Tryz.underlying61 rfl rfl rfl) ?_
  refine lO (pr_ixa (j := 6) (m' := 6) sd oM Tryz.underlying134 (z := 1) kr rfl rfl rfl) ?_
  refine lQ (ld_blk 1 rfl (get32 sd) Tryz.underlying61 rfl rfl rfl) ?_
  refine lO (pr_build (qs := [(0, (b32 ((((((ath (rounds s (schw b 64) k) 7) + (((ror32 (ath (rounds s (schw b 64) k) 4) 6) ^^^ (ror32 (ath (rounds s (schw b 64) k) 4) 11)) ^^^ (ror32 (ath (rounds s (schw b 64) k) 4) 25))) + (((ath (rounds s (schw b 64) k) 4) &&& (ath (rounds s (schw b 64) k) 5)) ^^^ ((~~~(ath (rounds s (schw b 64) k) 4)) &&& (ath (rounds s (schw b 64) k) 6)))) + (ath shaK k)) + (ath (schw b 64) k)) + ((((ror32 (ath (rounds s (schw b 64) k) 0) 2) ^^^ (ror32 (ath (rounds s (schw b 64) k) 0) 13)) ^^^ (ror32 (ath (rounds s (schw b 64) k) 0) 22)) + ((((ath (rounds s (schw b 64) k) 0) &&& (ath (rounds s (schw b 64) k) 1)) ^^^ ((ath (rounds s (schw b 64) k) 0) &&& (ath (rounds s (schw b 64) k) 2))) ^^^ ((ath (rounds s (schw b 64) k) 1) &&& (ath (rounds s (schw b 64) k) 2))))))), (1, (b32 (ath (rounds s (schw b 64) k) 0))), (2, (b32 (ath (rounds s (schw b 64) k) 1))), (3, (b32 (ath (rounds s (schw b 64) k) 2))), (4, (b32 ((ath (rounds s (schw b 64) k) 3) + (((((ath (rounds s (schw b 64) k) 7) + (((ror32 (ath (rounds s (schw b 64) k) 4) 6) ^^^ (ror32 (ath (rounds s (schw b 64) k) 4) 11)) ^^^ (ror32 (ath (rounds s (schw b 64) k) 4) 25))) + (((ath (rounds s (schw b 64) k) 4) &&& (ath (rounds s (schw b 64) k) 5)) ^^^ ((~~~(ath (rounds s (schw b 64) k) 4)) &&& (ath (rounds s (schw b 64) k) 6)))) + (ath shaK k)) + (ath (schw b 64) k))))), (5, (b32 (ath (rounds s (schw b 64) k) 4))), (6, (b32 (ath (rounds s (schw b 64) k) 5))), (7, (b32 (ath (rounds s (schw b 64) k) 6)))]) (v := .agg [(b32 ((((((ath (rounds s (schw b 64) k) 7) + (((ror32 (ath (rounds s (schw b 64) k) 4) 6) ^^^ (ror32 (ath (rounds s (schw b 64) k) 4) 11)) ^^^ (ror32 (ath (rounds s (schw b 64) k) 4) 25))) + (((ath (rounds s (schw b 64) k) 4) &&& (ath (rounds s (schw b 64) k) 5)) ^^^ ((~~~(ath (rounds s (schw b 64) k) 4)) &&& (ath (rounds s (schw b 64) k) 6)))) + (ath shaK k)) + (ath (schw b 64) k)) + ((((ror32 (ath (rounds s (schw b 64) k) 0) 2) ^^^ (ror32 (ath (rounds s (schw b 64) k) 0) 13)) ^^^ (ror32 (ath (rounds s (schw b 64) k) 0) 22)) + ((((ath (rounds s (schw b 64) k) 0) &&& (ath (rounds s (schw b 64) k) 1)) ^^^ ((ath (rounds s (schw b 64) k) 0) &&& (ath (rounds s (schw b 64) k) 2))) ^^^ ((ath (rounds s (schw b 64) k) 1) &&& (ath (rounds s (schw b 64) k) 2)))))), (b32 (ath (rounds s (schw b 64) k) 0)), (b32 (ath (rounds s (schw b 64) k) 1)), (b32 (ath (rounds s (schw b 64) k) 2)), (b32 ((ath (rounds s (schw b 64) k) 3) + (((((ath (rounds s (schw b 64) k) 7) + (((ror32 (ath (rounds s (schw b 64) k) 4) 6) ^^^ (ror32 (ath (rounds s (schw b 64) k) 4) 11)) ^^^ (ror32 (ath (rounds s (schw b 64) k) 4) 25))) + (((ath (rounds s (schw b 64) k) 4) &&& (ath (rounds s (schw b 64) k) 5)) ^^^ ((~~~(ath (rounds s (schw b 64) k) 4)) &&& (ath (rounds s (schw b 64) k) 6)))) + (ath shaK k)) + (ath (schw b 64) k)))), (b32 (ath (rounds s (schw b 64) k) 4)), (b32 (ath (rounds s (schw b 64) k) 5)), (b32 (ath (rounds s (schw b 64) k) 6))].toArray) (fun _ => by kernel_rfl) rfl rfl) ?_
  refine L_op rfl (op_sto (n := 8) (vs := [(b32 ((((((ath (rounds s (schw b 64) k) 7) + (((ror32 (ath (rounds s (schw b 64) k) 4) 6) ^^^ (ror32 (ath (rounds s (schw b 64) k) 4) 11)) ^^^ (ror32 (ath (rounds s (schw b 64) k) 4) 25))) + (((ath (rounds s (schw b 64) k) 4) &&& (ath (rounds s (schw b 64) k) 5)) ^^^ ((~~~(ath (rounds s (schw b 64) k) 4)) &&& (ath (rounds s (schw b 64) k) 6)))) + (ath shaK k)) + (ath (schw b 64) k)) + ((((ror32 (ath (rounds s (schw b 64) k) 0) 2) ^^^ (ror32 (ath (rounds s (schw b 64) k) 0) 13)) ^^^ (ror32 (ath (rounds s (schw b 64) k) 0) 22)) + ((((ath (rounds s (schw b 64) k) 0) &&& (ath (rounds s (schw b 64) k) 1)) ^^^ ((ath (rounds s (schw b 64) k) 0) &&& (ath (rounds s (schw b 64) k) 2))) ^^^ ((ath (rounds s (schw b 64) k) 1) &&& (ath (rounds s (schw b 64) k) 2)))))), (b32 (ath (rounds s (schw b 64) k) 0)), (b32 (ath (rounds s (schw b 64) k) 1)), (b32 (ath (rounds s (schw b 64) k) 2)), (b32 ((ath (rounds s (schw b 64) k) 3) + (((((ath (rounds s (schw b 64) k) 7) + (((ror32 (ath (rounds s (schw b 64) k) 4) 6) ^^^ (ror32 (ath (rounds s (schw b 64) k) 4) 11)) ^^^ (ror32 (ath (rounds s (schw b 64) k) 4) 25))) + (((ath (rounds s (schw b 64) k) 4) &&& (ath (rounds s (schw b 64) k) 5)) ^^^ ((~~~(ath (rounds s (schw b 64) k) 4)) &&& (ath (rounds s (schw b 64) k) 6)))) + (ath shaK k)) + (ath (schw b 64) k)))), (b32 (ath (rounds s (schw b 64) k) 4)), (b32 (ath (rounds s (schw b 64) k) 5)), (b32 (ath (rounds s (schw b 64) k) 6))]) 1 rfl rfl kr (by simp [Value.oneCell']) sd kr rfl rfl rfl rfl ?_)
  refine L_nil ?_
  refine lR ?_
  refine lO (pr_add (na_i64 (a := k) (b := 1) sd) rfl rfl rfl) ?_
  refine lM ?_
  refine L_nil ?_
  refine T_as 0 _ (.blk g5 134 ((rounds s (schw b 64) (k + 1)).map b32)) rfl (by rw [rounds_succ]; rfl) ?_
  exact T_again (k + 1) pN pN (sc rfl (sc rfl (sc rfl (sc rfl (sc rfl (sc rfl sn)))))) [1, 0, 2, 3, 4, 5] ⟨by decide, rfl⟩
 have hc_27 := of_decide_eq_false hc_27
 refine T_exit rfl ?_
 obtain rfl : 64 = k := by omega
 refine T_seq ?_
 refine lT ?_
 refine lM ?_
 refine L_nil ?_
 refine T_block ?_
 refine T_as 3 _ (.blk g1 134 ((addt s (rounds s (schw b 64) 64) 0).map b32)) rfl (by rw [addt_zero]) ?_
 refine T_loop (T := Nat) (fun k => k ≤ 8) (fun k => [(3, (.pointer (some ⟨g1, 0, none⟩))), (6, (.pointer (some ⟨g2, 0, none⟩))), (7, (.pointer (some ⟨g5, 0, none⟩))), (110, (.int .i64 ((k : Nat) : Int)))]) (fun k => [.blk g6 132 ((schw b 64).map b32), .blk g5 134 ((rounds s (schw b 64) 64).map b32), .blk g2 134 [(b32 (0#32)), (b32 (0#32)), (b32 (0#32)), (b32 (0#32)), (b32 (0#32)), (b32 (0#32)), (b32 (0#32)), (b32 (0#32))], .blk g1 134 ((addt s (rounds s (schw b 64) 64) k).map b32), .rd (some ⟨gk, 0, none⟩) 1 64 64 (shaK.map b32), .rd A 1 64 c (b.map b8)]) (fun k => 8 - k) 0 pN (sc rfl (sc rfl (sc rfl (sc rfl sn)))) [1, 2, 3, 0, 4, 5] ⟨by decide, rfl⟩ ?_
 rintro k hp
 have hp : k ≤ 8 := hp
 have hak := hal (rounds s (schw b 64) 64) k
 have hr64 := hrl 64
 refine lE [(3, (.pointer (some ⟨g1, 0, none⟩))), (6, (.pointer (some ⟨g2, 0, none⟩))), (7, (.pointer (some ⟨g5, 0, none⟩))), (110, (.int .i64 ((k : Nat) : Int)))] ?_
 refine lH [0, 1, 2, 3, 4, 5] [.blk g6 132 ((schw b 64).map b32), .blk g5 134 ((rounds s (schw b 64) 64).map b32), .blk g2 134 [(b32 (0#32)), (b32 (0#32)), (b32 (0#32)), (b32 (0#32)), (b32 (0#32)), (b32 (0#32)), (b32 (0#32)), (b32 (0#32))], .blk g1 134 ((addt s (rounds s (schw b 64) 64) k).map b32), .rd (some ⟨gk, 0, none⟩) 1 64 64 (shaK.map b32), .rd A 1 64 c (b.map b8)] ?_
 refine lT ?_
 refine lO (pr_cmp (bo := .lss) (nc_lt (a := k) (b := 8)) rfl rfl rfl rfl) ?_
 refine L_nil ?_
 refine T_seq ?_
 refine T_cond (decide (k < 8)) rfl (fun hc_40 => ?_) (fun hc_40 => ?_)
 ·have hc_40 := of_decide_eq_true hc_40
  refine T_skip ?_
  refine T_seq ?_
  refine T_block ?_
  refine lT ?_
  refine lM ?_
  refine lS ?_
  refine L_nil ?_
  refine T_regD [.blk g6 132 ((schw b 64).map b32), .blk g5 134 ((rounds s (schw b 64) 64).map b32), .blk g2 134 [(b32 (0#32)), (b32 (0#32)), (b32 (0#32)), (b32 (0#32)), (b32 (0#32)), (b32 (0#32)), (b32 (0#32)), (b32 (0#32))], .blk g1 134 ((addt s (rounds s (schw b 64) 64) k).map b32), .rd (some ⟨gk, 0, none⟩) 1 64 64 (shaK.map b32), .rd A 1 64 c (b.map b8)] 8 9 #[false, false, false, false, false, false, false, false, false] hF kr kr ?_
  refine D_pure (i := 0) [0, 1, 2, 3, 4, 5] rfl kr rfl (pr_move rfl rfl) (.inr rfl) rfl rfl ?_
  refine D_pure (i := 1) [0, 1, 2, 3, 4, 5] rfl kr rfl (pr_ixa (j := k) (m' := k) sd oM Tryz.underlying134 (z := 1) kr rfl rfl rfl) (.inr rfl) rfl rfl ?_
  refine D_pure (i := 3) [0, 1, 2, 3, 4, 5] rfl kr rfl (pr_move rfl rfl) (.inr rfl) rfl rfl ?_
  refine D_pure (i := 4) [0, 1, 2, 3, 4, 5] rfl kr rfl (pr_ixa (j := k) (m' := k) sd oM Tryz.underlying134 (z := 1) kr rfl rfl rfl) (.inr rfl) rfl rfl ?_
  refine D_take (i := 2) [0, 1, 2, 3, 4, 5] rfl kr rfl (ld_blk 3 rfl (get32 sd) Tryz.underlying61 rfl rfl rfl) rfl rfl rfl ?_
  refine D_take (i := 5) [0, 1, 2, 3, 4, 5] rfl kr rfl (ld_blk 1 rfl (get32 sd) Tryz.underlying61 rfl rfl rfl) rfl rfl rfl ?_
  refine D_pure (i := 6) [0, 1, 2, 3, 4, 5] rfl kr rfl (pr_add (add32 _ _) rfl rfl rfl) (.inr rfl) rfl rfl ?_
  refine D_pure (i := 7) [0, 1, 2, 3, 4, 5] rfl kr rfl (pr_ixa (j := k) (m' := k) sd oM Tryz.underlying134 (z := 1) kr rfl rfl rfl) (.inr rfl) rfl rfl ?_
  refine D_one 8 _ rfl kr rfl (op_store (vs := [(b32 ((ath (addt s (rounds s (schw b 64) 64) k) k) + (ath (rounds s (schw b 64) 64) k)))]) (cs' := ((List.set (addt s (rounds s (schw b 64) 64) k) k ((ath (addt s (rounds s (schw b 64) 64) k) k) + (ath (rounds s (schw b 64) 64) k))).map b32)) 3 rfl rfl kr (one_one rfl) (stl sd) (splice_map (f := b32) sd) rfl rfl rfl rfl ?_)
  refine D_past kr ?_
  refine D_done kr ?_
  refine lR ?_
  refine lO (pr_add (na_i64 (a := k) (b := 1) sd) rfl rfl rfl) ?_
  refine lM ?_
  refine L_nil ?_
  refine T_as 0 _ (.blk g1 134 ((addt s (rounds s (schw b 64) 64) (k + 1)).map b32)) rfl (by rw [addt_succ]) ?_
  exact T_again (k + 1) pN pN (sc rfl (sc rfl (sc rfl (sc rfl sn)))) [1, 2, 3, 0, 4, 5] ⟨by decide, rfl⟩
 have hc_40 := of_decide_eq_false hc_40
 refine T_exit rfl ?_
 refine lT ?_
 refine lQ (ld_agg (ds := ((addt s (rounds s (schw b 64) 64) k).map b32)) 3 rfl agg_all Tryz.underlying134 rfl (fwz (n := 8) kr sd) rfl rfl) ?_
 refine L_op rfl (op_sto (n := 8) (vs := ((addt s (rounds s (schw b 64) 64) k).map b32)) 2 rfl rfl kr (all32_one _) kr sd rfl rfl rfl rfl ?_)
 refine L_nil ?_
 refine T_ret ?_
 obtain rfl : 8 = k := by omega
 refine T_as 0 _ (.blk g2 134 ((mixb s b).map b32)) rfl (by rw [mixb_def]) ?_
 exact T_fin () qN (resb 0 rfl rfl rfl Tryz.underlying134 rfl (fwz (n := 8) kr sd)) [] ⟨by decide, rfl⟩ rfl
end Go.Proofs.YtlplpmkdebemnaaGreat
namespace Go.Proofs.YtlplpmkdebemnaaGreat
set_option maxRecDepth 100000
open Go.RowKit Bv Fw
theorem catp_nil : catp [] = [] := rfl
theorem catp_cons (p : Pt) (L : List Pt) : catp (p :: L) = p.xs ++ catp L := by simp [catp]
set_option maxHeartbeats 4000000 in
theorem sum_f (Q : List Pt) (A : Option Addr) (n : Nat) (c : Nat) (w : World) (hO : HOK [.rd A 1 n c (Q.map Pt.sl), .all Q] w) (hn : Q.length = n) (hs : (catp Q).length ≤ 1000000000) (hn2 : n ≤ 1000000000) : Calls Tryz.prog 99 [(.slice A n c)].toArray w (Ret (T := Unit) [] w (fun _ => True) (fun _ => (.agg ((shasum (catp Q)).map b8).toArray)) (fun _ => [])) := by
 have hkl : shaK.length = 64 := shaK_len
 have hpl : plen (catp Q).length ≤ 72 := plen_le _
 have hml := shamsg_len (catp Q)
 have hpbl := padb_len (catp Q).length
 have hsl := shasum_len (catp Q)
 have hHl := shaH_len
 have hstl := fun k => hst_len (shamsg (catp Q)) k
 have hsol := fun s k => shaout_len s k
 have hF : Wid Fence.wide := wid_wide
 refine enter_m (c := _) Tryz.func99 rfl [] _ [.rd A 1 n c (Q.map Pt.sl), .all Q] (by rw [Tryz.ntmps99]; rfl) (own_rds hO rfl) ?_
 rw [Tryz.ntmps99]
 refine lE [(0, (.slice A n c))] ?_
 refine lH [0, 1] [.rd A 1 n c (Q.map Pt.sl), .all Q] ?_
 refine lT ?_
 refine L_op rfl (op_alloc (z := .agg ((List.replicate 32 0#8).map b8).toArray) (zs := ((List.replicate 32 0#8).map b8)) kr rfl rfl rfl rfl (fun g1 => ?_))
 refine lN ?_
 refine lM ?_
 refine L_op rfl (op_cn (fun w hw => concat_f Q A n c w (hok_cons ((src_rd 1 rfl) w hw) (hok_cons (hw _ (List.mem_of_getElem? (i := 2) rfl)) (hok_nil w))) sd sd sd) (enters_of Tryz.func78 kr rfl) rfl rfl rfl rfl rfl (fun t2 q3 => ?_))
 obtain ⟨B4, d5⟩ := t2
 refine lS ?_
 refine lN ?_
 refine lM ?_
 refine lM ?_
 refine lO (pr_len_sl Tryz.underlying27 rfl rfl) ?_
 refine L_op rfl (op_cn (fun w hw => pad_f ((catp Q).length) w (hok_nil w) sd) (enters_of Tryz.func106 kr rfl) rfl rfl rfl rfl rfl (fun t6 q7 => ?_))
 obtain ⟨B8, d9⟩ := t6
 refine L_op rfl (op_append (z := (b8 (0#8))) (size := 1) (bytes := 1) 1 rfl Tryz.underlying27 kr kr (by decide) (src_row 0 rfl) (all8_one _) sd sd rfl rfl rfl rfl rfl (fun A10 C11 => ?_))
 refine T_as 0 _ (.row (.slice A10 ((catp Q).length + (plen ((catp Q).length))) C11) 5 1 ((catp Q).length + (plen ((catp Q).length))) (((catp Q) ++ padb ((catp Q).length)).map b8)) rfl (by congr 1; simp; done) ?_
 refine lS ?_
 refine lN ?_
 refine L_op rfl (op_cn (fun w hw => words_f  w (hok_nil w) ) (enters_of Tryz.func107 kr rfl) rfl rfl rfl rfl rfl (fun t12 q13 => ?_))
 refine L_op rfl (op_alloc (z := .agg ((List.replicate 64 0#32).map b32).toArray) (zs := ((List.replicate 64 0#32).map b32)) kr rfl rfl rfl rfl (fun g14 => ?_))
 refine L_op rfl (op_sto (n := 64) (vs := (shaK.map b32)) 0 rfl rfl kr (all32_one _) kr sd rfl rfl rfl rfl ?_)
 refine lN ?_
 refine lO (pr_build (qs := [(0, (b32 (1779033703#32))), (1, (b32 (3144134277#32))), (2, (b32 (1013904242#32))), (3, (b32 (2773480762#32))), (4, (b32 (1359893119#32))), (5, (b32 (2600822924#32))), (6, (b32 (528734635#32))), (7, (b32 (1541459225#32)))]) (v := .agg [(b32 (1779033703#32)), (b32 (3144134277#32)), (b32 (1013904242#32)), (b32 (2773480762#32)), (b32 (1359893119#32)), (b32 (2600822924#32)), (b32 (528734635#32)), (b32 (1541459225#32))].toArray) (fun _ => by kernel_rfl) rfl rfl) ?_
 refine L_op rfl (op_alloc (z := .agg [(b32 (0#32)), (b32 (0#32)), (b32 (0#32)), (b32 (0#32)), (b32 (0#32)), (b32 (0#32)), (b32 (0#32)), (b32 (0#32))].toArray) (zs := [(b32 (0#32)), (b32 (0#32)), (b32 (0#32)), (b32 (0#32)), (b32 (0#32)), (b32 (0#32)), (b32 (0#32)), (b32 (0#32))]) kr rfl rfl rfl rfl (fun g15 => ?_))
 refine L_op rfl (op_sto (n := 8) (vs := [(b32 (1779033703#32)), (b32 (3144134277#32)), (b32 (1013904242#32)), (b32 (2773480762#32)), (b32 (1359893119#32)), (b32 (2600822924#32)), (b32 (528734635#32)), (b32 (1541459225#32))]) 0 rfl rfl kr (by simp [Value.oneCell']) kr kr rfl rfl rfl rfl ?_)
 refine L_nil ?_
 refine T_seq ?_
 refine lT ?_
 refine lM ?_
 refine L_op rfl (op_cn (fun w hw => chunk_f A10 ((catp Q).length + (plen ((catp Q).length))) C11 64 w (hok_nil w) sd) (enters_of Tryz.func45 kr rfl) rfl rfl rfl rfl rfl (fun t16 q17 => ?_))
 obtain ⟨g1_18, g2_19⟩ := t16
 refine L_nil ?_
 refine T_block ?_
 refine T_tord 0 rfl ?_
 refine T_tord 1 rfl ?_
 refine T_old 4 rfl ?_
 refine T_tord 0 rfl ?_
 refine T_as 3 _ (.blk g15 134 ((hst (shamsg (catp Q)) 0).map b32)) rfl (by rw [hst_zero]; unfold shaH; rfl) ?_
 refine T_range (Θ := Option Addr) (T := Unit) (Tx := Unit) (cap := [(.pointer (some ⟨g1_18, 0, none⟩)), (.pointer (some ⟨g2_19, 0, none⟩))]) (ps := [21]) (chunk_seq ((catp Q) ++ padb ((catp Q).length)) 64 A10 ((catp Q).length + (plen ((catp Q).length))) C11 g1_18 g2_19 sd sd sd sd) rfl (enters_of Tryz.func67 kr rfl) (fun k _ => True) (fun k _ => [.rd A10 1 ((catp Q).length + (plen ((catp Q).length))) C11 (((catp Q) ++ padb ((catp Q).length)).map b8), .rd (some ⟨g2_19, 0, none⟩) 1 1 1 [(.int .i64 ((64 : Nat) : Int))], .rd (some ⟨g1_18, 0, none⟩) 1 1 1 [(.slice A10 ((catp Q).length + (plen ((catp Q).length))) C11)], .blk g15 134 ((hst (shamsg (catp Q)) k).map b32), .blk g14 132 (shaK.map b32), .row (.slice B8 (plen ((catp Q).length)) d9) 5 1 (plen ((catp Q).length)) ((padb ((catp Q).length)).map b8), .blk g1 22 ((List.replicate 32 0#8).map b8), .rd A 1 n c (Q.map Pt.sl), .all Q]) (fun _ => False) (fun _ => []) 0 () pN [1, 2, 3, 0, 4, 5, 6, 7, 8] ⟨by decide, rfl⟩ [3, 2, 1] rfl rfl (fun _ _ => rfl) (fun _ => rfl) (fun _ _ => rfl) (fun _ _ => rfl) rfl (fun _ => trivial) ?_ ?_ ?_
 ·intro C2 w2 lo2 rs2 l D m k t th rc hrec hk hp
  obtain ⟨B, rfl⟩ : ∃ x, x = th := ⟨_, rfl⟩
  have hp : True := hp
  have hk : k < (((catp Q).length + (plen ((catp Q).length))) + 64 - 1) / 64 := hk
  obtain ⟨hmin, hb64⟩ := shablk (catp Q) k hk
  have hk8 := hstl k
  have hk9 := (mixb_len (hst (shamsg (catp Q)) k) (List.take 64 (List.drop (64 * k) (shamsg (catp Q))))).trans hk8
  have hF : Wid (Fence.wide.inRound l) := wid_round l
  refine lE [(4, (.pointer (some ⟨g14, 0, none⟩))), (5, (.pointer (some ⟨g15, 0, none⟩))), (21, (.slice B (min 64 (((catp Q).length + (plen ((catp Q).length))) - 64 * k)) (min 64 (((catp Q).length + (plen ((catp Q).length))) - 64 * k))))] ?_
  refine lH [0, 1, 2, 3, 4, 5, 6, 7, 8, 9, 10, 11] [.rd B 1 (min 64 (((catp Q).length + (plen ((catp Q).length))) - 64 * k)) (min 64 (((catp Q).length + (plen ((catp Q).length))) - 64 * k)) ((List.take (min 64 (((catp Q).length + (plen ((catp Q).length))) - 64 * k)) (List.drop (64 * k) ((catp Q) ++ padb ((catp Q).length)))).map b8), .obj l (.loop rc), .obj D (.deferred (some [])), .rd A10 1 ((catp Q).length + (plen ((catp Q).length))) C11 (((catp Q) ++ padb ((catp Q).length)).map b8), .rd (some ⟨g2_19, 0, none⟩) 1 1 1 [(.int .i64 ((64 : Nat) : Int))], .rd (some ⟨g1_18, 0, none⟩) 1 1 1 [(.slice A10 ((catp Q).length + (plen ((catp Q).length))) C11)], .blk g15 134 ((hst (shamsg (catp Q)) k).map b32), .blk g14 132 (shaK.map b32), .row (.slice B8 (plen ((catp Q).length)) d9) 5 1 (plen ((catp Q).length)) ((padb ((catp Q).length)).map b8), .blk g1 22 ((List.replicate 32 0#8).map b8), .rd A 1 n c (Q.map Pt.sl), .all Q] ?_
  refine T_slot 21 _ (.slice B 64 64) rfl (by rw [hmin]) ?_
  refine T_as 0 _ (.rd B 1 64 64 ((List.take 64 (List.drop (64 * k) (shamsg (catp Q)))).map b8)) rfl (by rw [hmin, shamsg_def]) ?_
  refine lR ?_
  refine lS ?_
  refine L_nil ?_
  refine T_begun 1 rfl hrec ?_
  refine T_block ?_
  refine lR ?_
  refine lQ (ld_agg (ds := ((hst (shamsg (catp Q)) k).map b32)) 6 rfl agg_all Tryz.underlying134 rfl (fwz (n := 8) kr sd) rfl rfl) ?_
  refine lM ?_
  refine L_op rfl (op_cn (fun w hw => mixed_f (hst (shamsg (catp Q)) k) g14 (List.take 64 (List.drop (64 * k) (shamsg (catp Q)))) B 64 w (hok_cons ((src_full (z := 1) 7 rfl sd sd sd) w hw) (hok_cons ((src_rd 1 rfl) w hw) (hok_nil w))) sd sd) (enters_of Tryz.func108 kr rfl) rfl rfl rfl rfl rfl (fun t20 q21 => ?_))
  refine L_op rfl (op_sto (n := 8) (vs := ((mixb (hst (shamsg (catp Q)) k) (List.take 64 (List.drop (64 * k) (shamsg (catp Q))))).map b32)) 6 rfl rfl kr (all32_one _) sd sd rfl rfl rfl rfl ?_)
  refine L_nil ?_
  refine T_as 0 _ (.blk g15 134 ((hst (shamsg (catp Q)) (k + 1)).map b32)) rfl (by rw [hst_succ]) ?_
  exact T_on () pN [1, 3, 4, 5, 6, 0, 7, 8, 9, 10, 11] ⟨by decide, rfl⟩
 ·intro D t hp
  have hp : True := hp
  have hk8 := hstl (((catp Q).length + plen (catp Q).length + 64 - 1) / 64)
  refine lE [(2, (.pointer (some ⟨g1, 0, none⟩))), (5, (.pointer (some ⟨g15, 0, none⟩)))] ?_
  refine lH [0, 1, 2, 3, 4, 5, 6, 7, 8, 9] [.obj D (.deferred (some [])), .rd A10 1 ((catp Q).length + (plen ((catp Q).length))) C11 (((catp Q) ++ padb ((catp Q).length)).map b8), .rd (some ⟨g2_19, 0, none⟩) 1 1 1 [(.int .i64 ((64 : Nat) : Int))], .rd (some ⟨g1_18, 0, none⟩) 1 1 1 [(.slice A10 ((catp Q).length + (plen ((catp Q).length))) C11)], .blk g15 134 ((hst (shamsg (catp Q)) ((((catp Q).length + (plen ((catp Q).length))) + 64 - 1) / 64)).map b32), .blk g14 132 (shaK.map b32), .row (.slice B8 (plen ((catp Q).length)) d9) 5 1 (plen ((catp Q).length)) ((padb ((catp Q).length)).map b8), .blk g1 22 ((List.replicate 32 0#8).map b8), .rd A 1 n c (Q.map Pt.sl), .all Q] ?_
  refine lT ?_
  refine L_op rfl (op_make (z := (b8 (0#8))) (n := 0) (c := 32) Tryz.underlying27 (bytes := 1) kr rfl sd sd sd rfl rfl rfl rfl rfl (fun g22 => ?_))
  refine T_as 0 _ (.blk g22 5 ((List.replicate 32 0#8).map b8)) rfl (by rw [List.map_replicate]) ?_
  refine lS ?_
  refine L_nil ?_
  refine T_seq ?_
  refine lT ?_
  refine lQ (ld_agg (ds := ((hst (shamsg (catp Q)) ((((catp Q).length + (plen ((catp Q).length))) + 64 - 1) / 64)).map b32)) 5 rfl agg_all Tryz.underlying134 rfl (fwz (n := 8) kr sd) rfl rfl) ?_
  refine lM ?_
  refine L_nil ?_
  refine T_block ?_
  refine T_slot 7 (.slice (some ⟨g22, 0, none⟩) 0 32) (.slice (some ⟨g22, 0, none⟩) (4 * 0) 32) rfl (by rfl) ?_
  refine T_rowb 0 (zs := ((shaout (hst (shamsg (catp Q)) (((catp Q).length + plen (catp Q).length + 64 - 1) / 64)) 0).map b8)) 1 (4 * 0) 32 rfl sd sd sd (by rw [shaout_zero]; rfl) ?_
  refine T_loop (T := Nat × Option Addr × Nat) (fun ⟨k, A1, c1⟩ => k ≤ 8) (fun ⟨k, A1, c1⟩ => [(2, (.pointer (some ⟨g1, 0, none⟩))), (7, (.slice A1 (4 * k) c1)), (26, (.agg ((hst (shamsg (catp Q)) ((((catp Q).length + (plen ((catp Q).length))) + 64 - 1) / 64)).map b32).toArray)), (27, (.int .i64 ((k : Nat) : Int)))]) (fun ⟨k, A1, c1⟩ => [.row (.slice A1 (4 * k) c1) 5 1 (4 * k) ((shaout (hst (shamsg (catp Q)) (((catp Q).length + plen (catp Q).length + 64 - 1) / 64)) k).map b8), .obj D (.deferred (some [])), .rd A10 1 ((catp Q).length + (plen ((catp Q).length))) C11 (((catp Q) ++ padb ((catp Q).length)).map b8), .rd (some ⟨g2_19, 0, none⟩) 1 1 1 [(.int .i64 ((64 : Nat) : Int))], .rd (some ⟨g1_18, 0, none⟩) 1 1 1 [(.slice A10 ((catp Q).length + (plen ((catp Q).length))) C11)], .blk g15 134 ((hst (shamsg (catp Q)) ((((catp Q).length + (plen ((catp Q).length))) + 64 - 1) / 64)).map b32), .blk g14 132 (shaK.map b32), .row (.slice B8 (plen ((catp Q).length)) d9) 5 1 (plen ((catp Q).length)) ((padb ((catp Q).length)).map b8), .blk g1 22 ((List.replicate 32 0#8).map b8), .rd A 1 n c (Q.map Pt.sl), .all Q]) (fun ⟨k, A1, c1⟩ => 8 - k) (0, some ⟨g22, 0, none⟩, 32) pN (sc rfl (sc rfl (sc rfl (sc rfl sn)))) [0, 1, 2, 3, 4, 5, 6, 7, 8, 9, 10] ⟨by decide, rfl⟩ ?_
  rintro ⟨k, A1, c1⟩ hp
  have hp : k ≤ 8 := hp
  have hkl2 := hsol (hst (shamsg (catp Q)) (((catp Q).length + plen (catp Q).length + 64 - 1) / 64)) k
  refine lE [(2, (.pointer (some ⟨g1, 0, none⟩))), (7, (.slice A1 (4 * k) c1)), (26, (.agg ((hst (shamsg (catp Q)) ((((catp Q).length + (plen ((catp Q).length))) + 64 - 1) / 64)).map b32).toArray)), (27, (.int .i64 ((k : Nat) : Int)))] ?_
  refine lH [0, 1, 2, 3, 4, 5, 6, 7, 8, 9, 10] [.row (.slice A1 (4 * k) c1) 5 1 (4 * k) ((shaout (hst (shamsg (catp Q)) (((catp Q).length + plen (catp Q).length + 64 - 1) / 64)) k).map b8), .obj D (.deferred (some [])), .rd A10 1 ((catp Q).length + (plen ((catp Q).length))) C11 (((catp Q) ++ padb ((catp Q).length)).map b8), .rd (some ⟨g2_19, 0, none⟩) 1 1 1 [(.int .i64 ((64 : Nat) : Int))], .rd (some ⟨g1_18, 0, none⟩) 1 1 1 [(.slice A10 ((catp Q).length + (plen ((catp Q).length))) C11)], .blk g15 134 ((hst (shamsg (catp Q)) ((((catp Q).length + (plen ((catp Q).length))) + 64 - 1) / 64)).map b32), .blk g14 132 (shaK.map b32), .row (.slice B8 (plen ((catp Q).length)) d9) 5 1 (plen ((catp Q).length)) ((padb ((catp Q).length)).map b8), .blk g1 22 ((List.replicate 32 0#8).map b8), .rd A 1 n c (Q.map Pt.sl), .all Q] ?_
  refine lT ?_
  refine lO (pr_cmp (bo := .lss) (nc_lt (a := k) (b := 8)) rfl rfl rfl rfl) ?_
  refine L_nil ?_
  refine T_seq ?_
  refine T_cond (decide (k < 8)) rfl (fun hc_23 => ?_) (fun hc_23 => ?_)
  ·have hc_23 := of_decide_eq_true hc_23
   refine T_skip ?_
   refine T_seq ?_
   refine T_block ?_
   refine lT ?_
   refine lO (pr_ix (cs := ((hst (shamsg (catp Q)) ((((catp Q).length + (plen ((catp Q).length))) + 64 - 1) / 64)).map b32)) (j := k) sd (get32 sd) Tryz.underlying134 Tryz.underlying61 rfl kr rfl rfl rfl) ?_
   refine lS ?_
   refine L_nil ?_
   refine lR ?_
   refine lM ?_
   refine lM ?_
   refine lO (pr_cv (cv32_64 _) Tryz.underlying61 Tryz.underlying23 rfl rfl) ?_
   refine L_op rfl (op_c1 0 rfl (fun w hw => putHigh_f (shaout (hst (shamsg (catp Q)) (((catp Q).length + plen (catp Q).length + 64 - 1) / 64)) k) ((ath (hst (shamsg (catp Q)) ((((catp Q).length + (plen ((catp Q).length))) + 64 - 1) / 64)) k).setWidth 64) 4 A1 (4 * k) c1 w (hw _ (List.mem_of_getElem? (i := 0) rfl)) sd sd) (enters_of Tryz.func109 kr rfl) rfl rfl rfl rfl rfl (fun t24 q25 => ?_))
   obtain ⟨B26, d27⟩ := t24
   refine lS ?_
   refine L_nil ?_
   refine lR ?_
   refine lO (pr_add (na_i64 (a := k) (b := 1) sd) rfl rfl rfl) ?_
   refine lM ?_
   refine L_nil ?_
   refine T_slot 7 (.slice B26 ((4 * k) + 4) d27) (.slice B26 (4 * (k + 1)) d27) rfl (by rfl) ?_
   refine T_as 0 _ (.row (.slice B26 (4 * (k + 1)) d27) 5 1 (4 * (k + 1)) ((shaout (hst (shamsg (catp Q)) (((catp Q).length + plen (catp Q).length + 64 - 1) / 64)) (k + 1)).map b8)) rfl (by rw [shaout_succ]; congr 1) ?_
   exact T_again (k + 1, B26, d27) pN pN (sc rfl (sc rfl (sc rfl (sc rfl sn)))) [0, 1, 2, 3, 4, 5, 6, 7, 8, 9, 10] ⟨by decide, rfl⟩
  have hc_23 := of_decide_eq_false hc_23
  refine T_exit rfl ?_
  obtain rfl : 8 = k := by omega
  have hk32 := hsol (hst (shamsg (catp Q)) (((catp Q).length + plen (catp Q).length + 64 - 1) / 64)) 8
  refine lT ?_
  refine lM ?_
  refine lO (pr_s2a sd Tryz.underlying22 rfl rfl) ?_
  refine lQ (ld_aggs (ds := ((shaout (hst (shamsg (catp Q)) (((catp Q).length + plen (catp Q).length + 64 - 1) / 64)) 8).map b8)) (src_row 0 rfl) (List.take_length) (by have h1 : (((shaout (hst (shamsg (catp Q)) (((catp Q).length + plen (catp Q).length + 64 - 1) / 64)) 8).map b8)).length = 32 := sd; omega) Tryz.underlying22 rfl (fwz (n := 32) kr sd) rfl rfl) ?_
  refine L_op rfl (op_sto (n := 32) (vs := ((shaout (hst (shamsg (catp Q)) (((catp Q).length + plen (catp Q).length + 64 - 1) / 64)) 8).map b8)) 8 rfl rfl kr (all8_one _) kr sd rfl rfl rfl rfl ?_)
  refine L_nil ?_
  refine T_ret ?_
  refine T_as 0 _ (.blk g1 22 ((shasum (catp Q)).map b8)) rfl (by rw [shasum_def]) ?_
  exact T_finM 2 rfl () qN (resb 0 rfl rfl rfl Tryz.underlying22 rfl (fwz (n := 32) kr sd)) [] ⟨by decide, rfl⟩ rfl
 exact fun D t hq => hq.elim
end Go.Proofs.YtlplpmkdebemnaaGreat
namespace Go.Proofs.YtlplpmkdebemnaaGreat
open Bv
theorem high4_32 (ys : List (BitVec 8)) : (high ys 4).setWidth 32 = ((ath ys 0).setWidth 32 <<< 24 ||| (ath ys 1).setWidth 32 <<< 16) ||| (ath ys 2).setWidth 32 <<< 8 ||| (ath ys 3).setWidth 32 := by
  have e : high ys 4 = ((((0#64 <<< 8 ||| (ath ys 0).setWidth 64) <<< 8 ||| (ath ys 1).setWidth 64) <<< 8 ||| (ath ys 2).setWidth 64) <<< 8 ||| (ath ys 3).setWidth 64) := rfl
  rw [e]
  generalize ath ys 0 = a
  generalize ath ys 1 = b
  generalize ath ys 2 = c
  generalize ath ys 3 = d
  ext i hi
  simp only [BitVec.getElem_setWidth, BitVec.getElem_or, BitVec.getElem_shiftLeft, BitVec.getLsbD_or, BitVec.getLsbD_shiftLeft, BitVec.getLsbD_setWidth]
  rcases (by omega : i = 0 ∨ i = 1 ∨ i = 2 ∨ i = 3 ∨ i = 4 ∨ i = 5 ∨ i = 6 ∨ i = 7 ∨ i = 8 ∨ i = 9 ∨ i = 10 ∨ i = 11 ∨ i = 12 ∨ i = 13 ∨ i = 14 ∨ i = 15 ∨ i = 16 ∨ i = 17 ∨ i = 18 ∨ i = 19 ∨ i = 20 ∨ i = 21 ∨ i = 22 ∨ i = 23 ∨ i = 24 ∨ i = 25 ∨ i = 26 ∨ i = 27 ∨ i = 28 ∨ i = 29 ∨ i = 30 ∨ i = 31) with rfl | rfl | rfl | rfl | rfl | rfl | rfl | rfl | rfl | rfl | rfl | rfl | rfl | rfl | rfl | rfl | rfl | rfl | rfl | rfl | rfl | rfl | rfl | rfl | rfl | rfl | rfl | rfl | rfl | rfl | rfl | rfl <;> simp
theorem rsch_lo (m : List (BitVec 8)) (k j : Nat) (h : j < 16) : (fil (schw (List.take 64 (List.drop (64 * k) m)) j) 64).set j (((ath m (64 * k + 4 * j)).setWidth 32 <<< 24 ||| (ath m (64 * k + 4 * j + 1)).setWidth 32 <<< 16) ||| (ath m (64 * k + 4 * j + 2)).setWidth 32 <<< 8 ||| (ath m (64 * k + 4 * j + 3)).setWidth 32) = fil (schw (List.take 64 (List.drop (64 * k) m)) (j + 1)) 64 := by
  rw [← schw_lo _ j h, high4_32]
  simp only [ath_drop]
  rw [ath_take _ _ _ oM, ath_take _ _ _ oM, ath_take _ _ _ oM, ath_take _ _ _ oM]
  simp only [ath_drop, Nat.add_assoc, Nat.add_zero]
theorem shaout_at (s : List (BitVec 32)) (k : Nat) : ∀ j, j < 4 * k → ath (shaout s k) j = ((ath s (j / 4)) >>> (24 - 8 * (j % 4))).setWidth 8 := by
  induction k with
  | zero => intro j hj; omega
  | succ k ih =>
    intro j hj
    rw [shaout_succ]
    by_cases h : j < 4 * k
    · rw [ath_app_l _ _ _ (by rw [shaout_len]; exact h), ih j h]
    · rw [ath_app_r _ _ _ (by rw [shaout_len]; omega), shaout_len]
      obtain ⟨i, hi, rfl⟩ : ∃ i, i < 4 ∧ j = 4 * k + i := ⟨j - 4 * k, by omega, by omega⟩
      rw [show (4 * k + i) / 4 = k by omega, show (4 * k + i) % 4 = i by omega, show 4 * k + i - 4 * k = i by omega]
      have hb : ath (highb ((ath s k).setWidth 64) 4 4) i = (((ath s k).setWidth 64) >>> (8 * (3 - i))).setWidth 8 := by
        rcases (by omega : i = 0 ∨ i = 1 ∨ i = 2 ∨ i = 3) with rfl | rfl | rfl | rfl <;> rfl
      rw [hb, show 8 * (3 - i) = 24 - 8 * i by omega]
      generalize ath s k = x
      ext q hq
      simp [BitVec.getLsbD_setWidth]
      omega
def pre0 (xs : List (BitVec 8)) (n j : Nat) : List (BitVec 8) := xs.take j ++ List.replicate (n - j) 0#8
theorem pre0_zero (xs : List (BitVec 8)) (n : Nat) : List.replicate n 0#8 = pre0 xs n 0 := by simp [pre0]
theorem pre0_all (xs : List (BitVec 8)) (n : Nat) (h : xs.length = n) : pre0 xs n n = xs := by simp [pre0, ← h]
theorem pre0_len (xs : List (BitVec 8)) (n j : Nat) (h : xs.length = n) (hj : j ≤ n) : (pre0 xs n j).length = n := by simp [pre0]; omega
theorem pre0_set (xs : List (BitVec 8)) (n j : Nat) (h : xs.length = n) (hj : j < n) (v : BitVec 8) (hv : v = ath xs j) : (pre0 xs n j).set j v = pre0 xs n (j + 1) := by
  unfold pre0
  have hl : (xs.take j).length = j := by rw [List.length_take]; omega
  have ht : xs.take (j + 1) = xs.take j ++ [ath xs j] := by
    rw [List.take_add_one, List.getElem?_eq_getElem oM, ath_get xs j oM]; rfl
  rw [List.set_append_right _ _ oM, hl, Nat.sub_self, show n - j = (n - (j + 1)) + 1 by omega, List.replicate_succ, List.set_cons_zero, hv, ht]
  simp
theorem sumout_set (s : List (BitVec 32)) (o : List (BitVec 8)) (ho : shaout s 8 = o) (hl : o.length = 32) (j : Nat) (hj : j < 32) : (pre0 o 32 j).set j (((ath s (j / 4)) >>> (24 - 8 * (j % 4))).setWidth 8) = pre0 o 32 (j + 1) := by
  refine pre0_set _ _ _ hl hj _ ?_
  subst ho
  exact (shaout_at s 8 j oM).symm
end Go.Proofs.YtlplpmkdebemnaaGreat
