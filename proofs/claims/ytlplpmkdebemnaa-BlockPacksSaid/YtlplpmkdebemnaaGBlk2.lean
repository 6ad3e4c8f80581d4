/- Bytes taken as blocks, by facts. No conditions but lengths. -/
import Derived.Test.YtlplpmkdebemnaaGRec2
import Derived.Test.YtlplpmkdebemnaaProg
import Derived.Test.YtlplpmkdebemnaaFwU
namespace Go.Proofs.Ytlplpmkdebemnaa
set_option linter.unusedVariables false
set_option linter.unusedSimpArgs false
set_option linter.unnecessarySimpa false
set_option maxRecDepth 100000
open Go.RowKit Bv Fw

/-- A block's pieces. -/
def chk (b : List (BitVec 8)) (k : Nat) : List (BitVec 8) := List.take 32 (List.drop (32 * k) b)
theorem chk_len {b : List (BitVec 8)} {n k q : Nat} (hb : b.length = n) (hn : n = 32 * q) (hk : k < q) : (chk b k).length = 32 := by unfold chk; rw [List.length_take, List.length_drop]; omega
/-- Why the first so many pieces are no records; the records that they are. -/
def tke (b : List (BitVec 8)) : Nat → Nat
  | 0 => 0
  | k + 1 => if tke b k = 0 then rte (chk b k) else tke b k
def tks (b : List (BitVec 8)) : Nat → List Rc
  | 0 => []
  | k + 1 => tks b k ++ [rtk (chk b k)]
theorem tke_on {b : List (BitVec 8)} {k : Nat} (h : tke b k = 0) (h2 : rte (chk b k) = 0) : tke b (k + 1) = 0 := by rw [tke, if_pos h, h2]
theorem tke_stop {b : List (BitVec 8)} {k e : Nat} (h : tke b k = 0) (he : rte (chk b k) = e) (h2 : e ≠ 0) : ∀ m, k < m → tke b m = e
  | 0, hm => by omega
  | m + 1, hm => by
    by_cases hk : k = m
    · subst hk; rw [tke, if_pos h, he]
    · rw [tke, tke_stop h he h2 m (by omega), if_neg h2]
theorem tks_len (b : List (BitVec 8)) : ∀ k, (tks b k).length = k
  | 0 => rfl
  | k + 1 => by rw [tks, List.length_append, tks_len b k]; rfl
def bte (b : List (BitVec 8)) (z : Int) : Nat := if z < 1 ∨ 8 < z then 1 else if (b.length : Int) < z * 32 then 3 else if z * 32 < (b.length : Int) then 4 else tke b z.toNat
def btn (b : List (BitVec 8)) (z : Int) : Nat := if bte b z = 0 then z.toNat else 0
def btk (b : List (BitVec 8)) (z : Int) : List Rc := if bte b z = 0 then tks b z.toNat else []
theorem btk_len (b : List (BitVec 8)) (z : Int) : (btk b z).length = btn b z := by unfold btk btn; split <;> simp [tks_len]
theorem bte_arg {b : List (BitVec 8)} {z : Int} (h : z < 1 ∨ 8 < z) : bte b z = 1 := by unfold bte; rw [if_pos h]
theorem bte_short {b : List (BitVec 8)} {z : Int} (h1 : 1 ≤ z) (h2 : z ≤ 8) (h : (b.length : Int) < z * 32) : bte b z = 3 := by unfold bte; rw [if_neg (by omega), if_pos h]
theorem bte_long {b : List (BitVec 8)} {z : Int} (h1 : 1 ≤ z) (h2 : z ≤ 8) (h : z * 32 < (b.length : Int)) : bte b z = 4 := by unfold bte; rw [if_neg (by omega), if_neg (by omega), if_pos h]
theorem bte_ok {b : List (BitVec 8)} {z : Int} {q : Nat} (h1 : 1 ≤ z) (h2 : z ≤ 8) (h : z = (q : Int)) (hn : b.length = 32 * q) : bte b z = tke b q := by subst h; unfold bte; rw [if_neg (by omega), if_neg (by omega), if_neg (by omega)]; rfl
theorem bte_err {b : List (BitVec 8)} {z : Int} {q k : Nat} (h1 : 1 ≤ z) (h2 : z ≤ 8) (h : z = (q : Int)) (hn : b.length = 32 * q) (hk : k < q) (h0 : tke b k = 0) (he : ¬ rte (chk b k) = 0) : bte b z = rte (chk b k) := by rw [bte_ok h1 h2 h hn]; exact tke_stop h0 rfl he q hk
theorem btn_no {b : List (BitVec 8)} {z : Int} (h : bte b z ≠ 0) : btn b z = 0 := by unfold btn; rw [if_neg h]
theorem btk_no {b : List (BitVec 8)} {z : Int} (h : bte b z ≠ 0) : btk b z = [] := by unfold btk; rw [if_neg h]
theorem btn_ok {b : List (BitVec 8)} {z : Int} {q : Nat} (h : bte b z = 0) (hz : z = (q : Int)) : btn b z = q := by subst hz; unfold btn; rw [if_pos h]; rfl
theorem btk_ok {b : List (BitVec 8)} {z : Int} {q : Nat} (h : bte b z = 0) (hz : z = (q : Int)) : btk b z = tks b q := by subst hz; unfold btk; rw [if_pos h]; rfl

set_option maxHeartbeats 4000000 in
theorem btake_f (b : List (BitVec 8)) (z : Int) (A : Option Addr) (n : Nat) (c : Nat) (w : World) (hO : HOK [.rd A 1 n c (b.map b8)] w) (hb : b.length = n) (hn : n ≤ 1000000) : Calls Try.prog 21 [(.slice A n c), (.int .i64 z)].toArray w (Ret (T := Option Addr × Nat) [] w (fun ⟨B, e⟩ => True) (fun ⟨B, e⟩ => (.tuple [(.slice B (btn b z) e), (.int .i64 (((bte b z) : Nat) : Int))].toArray)) (fun ⟨B, e⟩ => [.row (.slice B (btn b z) e) 43 4 (btn b z) (rcs (btk b z))])) := by
 have hF : Wid Fence.wide := wid_wide
 refine enter_m (c := _) Try.func21 rfl [] _ [.rd A 1 n c (b.map b8)] (by rw [Try.ntmps21]; rfl) (own_rds hO rfl) ?_
 rw [Try.ntmps21]
 refine T_re [(0, (.slice A n c)), (1, (.int .i64 z))] (sc rfl (sc rfl sn)) ?_
 refine T_he [0] [.rd A 1 n c (b.map b8)] ⟨by decide, rfl⟩ ?_
 refine Tsr hF rfl ?_
 refine L_op rfl (op_alloc (z := (.slice none 0 0)) (zs := [(.slice none 0 0)]) kr rfl rfl rfl rfl (fun g1 => ?_))
 refine L_op rfl (op_alloc (z := (.int .i64 ((0 : Nat) : Int))) (zs := [(.int .i64 ((0 : Nat) : Int))]) kr rfl rfl rfl rfl (fun g2 => ?_))
 refine L_nil ?_
 refine T_seq ?_
 refine T_block ?_
 refine Tsr hF rfl ?_
 refine lm rfl rfl rfl rfl rfl ?_
 refine L_op rfl (op_cn (fun w hw => may_f z w (hok_nil w) ) (enters_of Try.func33 kr rfl) rfl rfl rfl rfl rfl (fun t3 q4 => ?_))
 refine lo rfl (pr_un rfl rfl rfl) rfl rfl ?_
 refine la rfl rfl rfl rfl rfl ?_
 refine L_nil ?_
 refine T_cond (!(mayb z)) rfl (fun hc_5 => ?_) (fun hc_5 => ?_)
 ·
  refine Tsr hF rfl ?_
  refine L_op rfl (op_store (vs := [(.slice none 0 0)]) (cs' := [(.slice none 0 0)]) 1 rfl rfl kr (one_one rfl) (by first | decide | simp | exact Nat.le_refl _) rfl rfl rfl rfl rfl ?_)
  refine L_op rfl (op_store (vs := [(.int .i64 ((1 : Nat) : Int))]) (cs' := [(.int .i64 ((1 : Nat) : Int))]) 1 rfl rfl kr (one_one rfl) (by first | decide | simp | exact Nat.le_refl _) rfl rfl rfl rfl rfl ?_)
  refine L_nil ?_
  refine T_ret ?_
  refine T_as 1 _ (.blk g1 27 [(.slice none (btn b z) 0)]) rfl (by first | rfl | (rw [btn_no (by rw [bte_arg (mayb_f (by assumption))]; decide), btk_no (by rw [bte_arg (mayb_f (by assumption))]; decide)]; rfl) | rw [btn_no (by rw [bte_arg (mayb_f (by assumption))]; decide)] | rw [bte_arg (mayb_f (by assumption))] | (rw [btn_no (by rw [bte_short hz1 hz2 (by omega)]; decide), btk_no (by rw [bte_short hz1 hz2 (by omega)]; decide)]; rfl) | rw [btn_no (by rw [bte_short hz1 hz2 (by omega)]; decide)] | rw [bte_short hz1 hz2 (by omega)] | (rw [btn_no (by rw [bte_long hz1 hz2 (by omega)]; decide), btk_no (by rw [bte_long hz1 hz2 (by omega)]; decide)]; rfl) | rw [btn_no (by rw [bte_long hz1 hz2 (by omega)]; decide)] | rw [bte_long hz1 hz2 (by omega)] | (rw [btn_no (by rw [he2]; assumption), btk_no (by rw [he2]; assumption)]; rfl) | rw [btn_no (by rw [he2]; assumption)] | rw [he2] | rw [btn_ok ((bte_ok hz1 hz2 hzq (by omega)).trans htz) hzq, btk_ok ((bte_ok hz1 hz2 hzq (by omega)).trans htz) hzq] | rw [btn_ok ((bte_ok hz1 hz2 hzq (by omega)).trans htz) hzq] | rw [(bte_ok hz1 hz2 hzq (by omega)).trans htz]) ?_
  refine T_as 1 _ (.blk g2 24 [(.int .i64 (((bte b z) : Nat) : Int))]) rfl (by first | rfl | (rw [btn_no (by rw [bte_arg (mayb_f (by assumption))]; decide), btk_no (by rw [bte_arg (mayb_f (by assumption))]; decide)]; rfl) | rw [btn_no (by rw [bte_arg (mayb_f (by assumption))]; decide)] | rw [bte_arg (mayb_f (by assumption))] | (rw [btn_no (by rw [bte_short hz1 hz2 (by omega)]; decide), btk_no (by rw [bte_short hz1 hz2 (by omega)]; decide)]; rfl) | rw [btn_no (by rw [bte_short hz1 hz2 (by omega)]; decide)] | rw [bte_short hz1 hz2 (by omega)] | (rw [btn_no (by rw [bte_long hz1 hz2 (by omega)]; decide), btk_no (by rw [bte_long hz1 hz2 (by omega)]; decide)]; rfl) | rw [btn_no (by rw [bte_long hz1 hz2 (by omega)]; decide)] | rw [bte_long hz1 hz2 (by omega)] | (rw [btn_no (by rw [he2]; assumption), btk_no (by rw [he2]; assumption)]; rfl) | rw [btn_no (by rw [he2]; assumption)] | rw [he2] | rw [btn_ok ((bte_ok hz1 hz2 hzq (by omega)).trans htz) hzq, btk_ok ((bte_ok hz1 hz2 hzq (by omega)).trans htz) hzq] | rw [btn_ok ((bte_ok hz1 hz2 hzq (by omega)).trans htz) hzq] | rw [(bte_ok hz1 hz2 hzq (by omega)).trans htz]) ?_
  refine T_nilrow 43 4 ?_
  refine T_as 0 _ (.row (.slice none (btn b z) 0) 43 4 (btn b z) (rcs (btk b z))) rfl (by first | rfl | (rw [btn_no (by rw [bte_arg (mayb_f (by assumption))]; decide), btk_no (by rw [bte_arg (mayb_f (by assumption))]; decide)]; rfl) | rw [btn_no (by rw [bte_arg (mayb_f (by assumption))]; decide)] | rw [bte_arg (mayb_f (by assumption))] | (rw [btn_no (by rw [bte_short hz1 hz2 (by omega)]; decide), btk_no (by rw [bte_short hz1 hz2 (by omega)]; decide)]; rfl) | rw [btn_no (by rw [bte_short hz1 hz2 (by omega)]; decide)] | rw [bte_short hz1 hz2 (by omega)] | (rw [btn_no (by rw [bte_long hz1 hz2 (by omega)]; decide), btk_no (by rw [bte_long hz1 hz2 (by omega)]; decide)]; rfl) | rw [btn_no (by rw [bte_long hz1 hz2 (by omega)]; decide)] | rw [bte_long hz1 hz2 (by omega)] | (rw [btn_no (by rw [he2]; assumption), btk_no (by rw [he2]; assumption)]; rfl) | rw [btn_no (by rw [he2]; assumption)] | rw [he2] | rw [btn_ok ((bte_ok hz1 hz2 hzq (by omega)).trans htz) hzq, btk_ok ((bte_ok hz1 hz2 hzq (by omega)).trans htz) hzq] | rw [btn_ok ((bte_ok hz1 hz2 hzq (by omega)).trans htz) hzq] | rw [(bte_ok hz1 hz2 hzq (by omega)).trans htz]) ?_
  exact T_finM0 (none, 0) (by first | trivial | omega | (simp; done)) (rescc 2 1 rfl rfl rfl rfl rfl Try.underlying27 rfl Try.underlying24 rfl) [0] ⟨by decide, rfl⟩ rfl
 ·
  refine Tsr hF rfl ?_
  refine lm rfl rfl rfl rfl rfl ?_
  obtain ⟨hz1, hz2⟩ := mayb_t (z := z) (by assumption)
  refine lo rfl (pr_len_sl Try.underlying23 rfl rfl) rfl rfl ?_
  refine lm rfl rfl rfl rfl rfl ?_
  refine lo rfl (pr_mul (zw_i64 (z := (z * ((32 : Nat) : Int))) sd) rfl rfl rfl) rfl rfl ?_
  refine lo rfl (pr_cmp (bo := .lss) (k := .i64) (a := ((n : Nat) : Int)) (b := (z * ((32 : Nat) : Int))) (c := decide (((n : Nat) : Int) < (z * ((32 : Nat) : Int)))) rfl rfl rfl rfl rfl) rfl rfl ?_
  refine la rfl rfl rfl rfl rfl ?_
  refine L_nil ?_
  refine T_cond (decide (((n : Nat) : Int) < (z * ((32 : Nat) : Int)))) rfl (fun hc_6 => ?_) (fun hc_6 => ?_)
  ·
   have hc_6 := of_decide_eq_true hc_6
   refine Tsr hF rfl ?_
   refine L_op rfl (op_store (vs := [(.slice none 0 0)]) (cs' := [(.slice none 0 0)]) 1 rfl rfl kr (one_one rfl) (by first | decide | simp | exact Nat.le_refl _) rfl rfl rfl rfl rfl ?_)
   refine L_op rfl (op_store (vs := [(.int .i64 ((3 : Nat) : Int))]) (cs' := [(.int .i64 ((3 : Nat) : Int))]) 1 rfl rfl kr (one_one rfl) (by first | decide | simp | exact Nat.le_refl _) rfl rfl rfl rfl rfl ?_)
   refine L_nil ?_
   refine T_ret ?_
   refine T_as 1 _ (.blk g1 27 [(.slice none (btn b z) 0)]) rfl (by first | rfl | (rw [btn_no (by rw [bte_arg (mayb_f (by assumption))]; decide), btk_no (by rw [bte_arg (mayb_f (by assumption))]; decide)]; rfl) | rw [btn_no (by rw [bte_arg (mayb_f (by assumption))]; decide)] | rw [bte_arg (mayb_f (by assumption))] | (rw [btn_no (by rw [bte_short hz1 hz2 (by omega)]; decide), btk_no (by rw [bte_short hz1 hz2 (by omega)]; decide)]; rfl) | rw [btn_no (by rw [bte_short hz1 hz2 (by omega)]; decide)] | rw [bte_short hz1 hz2 (by omega)] | (rw [btn_no (by rw [bte_long hz1 hz2 (by omega)]; decide), btk_no (by rw [bte_long hz1 hz2 (by omega)]; decide)]; rfl) | rw [btn_no (by rw [bte_long hz1 hz2 (by omega)]; decide)] | rw [bte_long hz1 hz2 (by omega)] | (rw [btn_no (by rw [he2]; assumption), btk_no (by rw [he2]; assumption)]; rfl) | rw [btn_no (by rw [he2]; assumption)] | rw [he2] | rw [btn_ok ((bte_ok hz1 hz2 hzq (by omega)).trans htz) hzq, btk_ok ((bte_ok hz1 hz2 hzq (by omega)).trans htz) hzq] | rw [btn_ok ((bte_ok hz1 hz2 hzq (by omega)).trans htz) hzq] | rw [(bte_ok hz1 hz2 hzq (by omega)).trans htz]) ?_
   refine T_as 1 _ (.blk g2 24 [(.int .i64 (((bte b z) : Nat) : Int))]) rfl (by first | rfl | (rw [btn_no (by rw [bte_arg (mayb_f (by assumption))]; decide), btk_no (by rw [bte_arg (mayb_f (by assumption))]; decide)]; rfl) | rw [btn_no (by rw [bte_arg (mayb_f (by assumption))]; decide)] | rw [bte_arg (mayb_f (by assumption))] | (rw [btn_no (by rw [bte_short hz1 hz2 (by omega)]; decide), btk_no (by rw [bte_short hz1 hz2 (by omega)]; decide)]; rfl) | rw [btn_no (by rw [bte_short hz1 hz2 (by omega)]; decide)] | rw [bte_short hz1 hz2 (by omega)] | (rw [btn_no (by rw [bte_long hz1 hz2 (by omega)]; decide), btk_no (by rw [bte_long hz1 hz2 (by omega)]; decide)]; rfl) | rw [btn_no (by rw [bte_long hz1 hz2 (by omega)]; decide)] | rw [bte_long hz1 hz2 (by omega)] | (rw [btn_no (by rw [he2]; assumption), btk_no (by rw [he2]; assumption)]; rfl) | rw [btn_no (by rw [he2]; assumption)] | rw [he2] | rw [btn_ok ((bte_ok hz1 hz2 hzq (by omega)).trans htz) hzq, btk_ok ((bte_ok hz1 hz2 hzq (by omega)).trans htz) hzq] | rw [btn_ok ((bte_ok hz1 hz2 hzq (by omega)).trans htz) hzq] | rw [(bte_ok hz1 hz2 hzq (by omega)).trans htz]) ?_
   refine T_nilrow 43 4 ?_
   refine T_as 0 _ (.row (.slice none (btn b z) 0) 43 4 (btn b z) (rcs (btk b z))) rfl (by first | rfl | (rw [btn_no (by rw [bte_arg (mayb_f (by assumption))]; decide), btk_no (by rw [bte_arg (mayb_f (by assumption))]; decide)]; rfl) | rw [btn_no (by rw [bte_arg (mayb_f (by assumption))]; decide)] | rw [bte_arg (mayb_f (by assumption))] | (rw [btn_no (by rw [bte_short hz1 hz2 (by omega)]; decide), btk_no (by rw [bte_short hz1 hz2 (by omega)]; decide)]; rfl) | rw [btn_no (by rw [bte_short hz1 hz2 (by omega)]; decide)] | rw [bte_short hz1 hz2 (by omega)] | (rw [btn_no (by rw [bte_long hz1 hz2 (by omega)]; decide), btk_no (by rw [bte_long hz1 hz2 (by omega)]; decide)]; rfl) | rw [btn_no (by rw [bte_long hz1 hz2 (by omega)]; decide)] | rw [bte_long hz1 hz2 (by omega)] | (rw [btn_no (by rw [he2]; assumption), btk_no (by rw [he2]; assumption)]; rfl) | rw [btn_no (by rw [he2]; assumption)] | rw [he2] | rw [btn_ok ((bte_ok hz1 hz2 hzq (by omega)).trans htz) hzq, btk_ok ((bte_ok hz1 hz2 hzq (by omega)).trans htz) hzq] | rw [btn_ok ((bte_ok hz1 hz2 hzq (by omega)).trans htz) hzq] | rw [(bte_ok hz1 hz2 hzq (by omega)).trans htz]) ?_
   exact T_finM0 (none, 0) (by first | trivial | omega | (simp; done)) (rescc 2 1 rfl rfl rfl rfl rfl Try.underlying27 rfl Try.underlying24 rfl) [0] ⟨by decide, rfl⟩ rfl
  ·
   have hc_6 := of_decide_eq_false hc_6
   refine Tsr hF rfl ?_
   refine lm rfl rfl rfl rfl rfl ?_
   refine lo rfl (pr_len_sl Try.underlying23 rfl rfl) rfl rfl ?_
   refine lm rfl rfl rfl rfl rfl ?_
   refine lo rfl (pr_mul (zw_i64 (z := (z * ((32 : Nat) : Int))) sd) rfl rfl rfl) rfl rfl ?_
   refine lo rfl (pr_cmp (bo := .gtr) (k := .i64) (a := ((n : Nat) : Int)) (b := (z * ((32 : Nat) : Int))) (c := decide ((z * ((32 : Nat) : Int)) < ((n : Nat) : Int))) rfl rfl rfl rfl rfl) rfl rfl ?_
   refine la rfl rfl rfl rfl rfl ?_
   refine L_nil ?_
   refine T_cond (decide ((z * ((32 : Nat) : Int)) < ((n : Nat) : Int))) rfl (fun hc_7 => ?_) (fun hc_7 => ?_)
   ·
    have hc_7 := of_decide_eq_true hc_7
    refine Tsr hF rfl ?_
    refine L_op rfl (op_store (vs := [(.slice none 0 0)]) (cs' := [(.slice none 0 0)]) 1 rfl rfl kr (one_one rfl) (by first | decide | simp | exact Nat.le_refl _) rfl rfl rfl rfl rfl ?_)
    refine L_op rfl (op_store (vs := [(.int .i64 ((4 : Nat) : Int))]) (cs' := [(.int .i64 ((4 : Nat) : Int))]) 1 rfl rfl kr (one_one rfl) (by first | decide | simp | exact Nat.le_refl _) rfl rfl rfl rfl rfl ?_)
    refine L_nil ?_
    refine T_ret ?_
    refine T_as 1 _ (.blk g1 27 [(.slice none (btn b z) 0)]) rfl (by first | rfl | (rw [btn_no (by rw [bte_arg (mayb_f (by assumption))]; decide), btk_no (by rw [bte_arg (mayb_f (by assumption))]; decide)]; rfl) | rw [btn_no (by rw [bte_arg (mayb_f (by assumption))]; decide)] | rw [bte_arg (mayb_f (by assumption))] | (rw [btn_no (by rw [bte_short hz1 hz2 (by omega)]; decide), btk_no (by rw [bte_short hz1 hz2 (by omega)]; decide)]; rfl) | rw [btn_no (by rw [bte_short hz1 hz2 (by omega)]; decide)] | rw [bte_short hz1 hz2 (by omega)] | (rw [btn_no (by rw [bte_long hz1 hz2 (by omega)]; decide), btk_no (by rw [bte_long hz1 hz2 (by omega)]; decide)]; rfl) | rw [btn_no (by rw [bte_long hz1 hz2 (by omega)]; decide)] | rw [bte_long hz1 hz2 (by omega)] | (rw [btn_no (by rw [he2]; assumption), btk_no (by rw [he2]; assumption)]; rfl) | rw [btn_no (by rw [he2]; assumption)] | rw [he2] | rw [btn_ok ((bte_ok hz1 hz2 hzq (by omega)).trans htz) hzq, btk_ok ((bte_ok hz1 hz2 hzq (by omega)).trans htz) hzq] | rw [btn_ok ((bte_ok hz1 hz2 hzq (by omega)).trans htz) hzq] | rw [(bte_ok hz1 hz2 hzq (by omega)).trans htz]) ?_
    refine T_as 1 _ (.blk g2 24 [(.int .i64 (((bte b z) : Nat) : Int))]) rfl (by first | rfl | (rw [btn_no (by rw [bte_arg (mayb_f (by assumption))]; decide), btk_no (by rw [bte_arg (mayb_f (by assumption))]; decide)]; rfl) | rw [btn_no (by rw [bte_arg (mayb_f (by assumption))]; decide)] | rw [bte_arg (mayb_f (by assumption))] | (rw [btn_no (by rw [bte_short hz1 hz2 (by omega)]; decide), btk_no (by rw [bte_short hz1 hz2 (by omega)]; decide)]; rfl) | rw [btn_no (by rw [bte_short hz1 hz2 (by omega)]; decide)] | rw [bte_short hz1 hz2 (by omega)] | (rw [btn_no (by rw [bte_long hz1 hz2 (by omega)]; decide), btk_no (by rw [bte_long hz1 hz2 (by omega)]; decide)]; rfl) | rw [btn_no (by rw [bte_long hz1 hz2 (by omega)]; decide)] | rw [bte_long hz1 hz2 (by omega)] | (rw [btn_no (by rw [he2]; assumption), btk_no (by rw [he2]; assumption)]; rfl) | rw [btn_no (by rw [he2]; assumption)] | rw [he2] | rw [btn_ok ((bte_ok hz1 hz2 hzq (by omega)).trans htz) hzq, btk_ok ((bte_ok hz1 hz2 hzq (by omega)).trans htz) hzq] | rw [btn_ok ((bte_ok hz1 hz2 hzq (by omega)).trans htz) hzq] | rw [(bte_ok hz1 hz2 hzq (by omega)).trans htz]) ?_
    refine T_nilrow 43 4 ?_
    refine T_as 0 _ (.row (.slice none (btn b z) 0) 43 4 (btn b z) (rcs (btk b z))) rfl (by first | rfl | (rw [btn_no (by rw [bte_arg (mayb_f (by assumption))]; decide), btk_no (by rw [bte_arg (mayb_f (by assumption))]; decide)]; rfl) | rw [btn_no (by rw [bte_arg (mayb_f (by assumption))]; decide)] | rw [bte_arg (mayb_f (by assumption))] | (rw [btn_no (by rw [bte_short hz1 hz2 (by omega)]; decide), btk_no (by rw [bte_short hz1 hz2 (by omega)]; decide)]; rfl) | rw [btn_no (by rw [bte_short hz1 hz2 (by omega)]; decide)] | rw [bte_short hz1 hz2 (by omega)] | (rw [btn_no (by rw [bte_long hz1 hz2 (by omega)]; decide), btk_no (by rw [bte_long hz1 hz2 (by omega)]; decide)]; rfl) | rw [btn_no (by rw [bte_long hz1 hz2 (by omega)]; decide)] | rw [bte_long hz1 hz2 (by omega)] | (rw [btn_no (by rw [he2]; assumption), btk_no (by rw [he2]; assumption)]; rfl) | rw [btn_no (by rw [he2]; assumption)] | rw [he2] | rw [btn_ok ((bte_ok hz1 hz2 hzq (by omega)).trans htz) hzq, btk_ok ((bte_ok hz1 hz2 hzq (by omega)).trans htz) hzq] | rw [btn_ok ((bte_ok hz1 hz2 hzq (by omega)).trans htz) hzq] | rw [(bte_ok hz1 hz2 hzq (by omega)).trans htz]) ?_
    exact T_finM0 (none, 0) (by first | trivial | omega | (simp; done)) (rescc 2 1 rfl rfl rfl rfl rfl Try.underlying27 rfl Try.underlying24 rfl) [0] ⟨by decide, rfl⟩ rfl
   ·
    have hc_7 := of_decide_eq_false hc_7
    refine T_skip ?_
    refine Tsr hF rfl ?_
    refine L_op rfl (op_alloc (z := (.slice none 0 0)) (zs := [(.slice none 0 0)]) kr rfl rfl rfl rfl (fun g8 => ?_))
    obtain ⟨q, hzq⟩ : ∃ q : Nat, z = (q : Int) := ⟨z.toNat, by omega⟩
    have hnq : n = 32 * q := by omega
    refine L_nil ?_
    refine T_seq ?_
    refine Tsr hF rfl ?_
    refine lm rfl rfl rfl rfl rfl ?_
    refine L_op rfl (op_cn (fun w hw => chunk_f A n c 32 w (hok_nil w) sd) (enters_of Try.func44 kr rfl) rfl rfl rfl rfl rfl (fun t9 q10 => ?_))
    obtain ⟨g1_11, g2_12⟩ := t9
    refine L_nil ?_
    refine T_block ?_
    refine T_tord 0 rfl ?_
    refine T_tord 1 rfl ?_
    refine T_nilrow 43 4 ?_
    refine T_as 0 _ (.row (.slice none 0 0) 43 4 0 (rcs (tks b 0))) rfl (by first | rfl | simp | (congr 1; simp)) ?_
    refine T_rangeR (Θ := Option Addr) (T := Option Addr × Nat) (Tx := Nat) (cap := [(.pointer (some ⟨g1_11, 0, none⟩)), (.pointer (some ⟨g2_12, 0, none⟩))]) (ps := [28]) (chunk_seq b 32 A n c g1_11 g2_12 sd sd sd sd) rfl (enters_of Try.func65 kr rfl) (fun k ⟨A1, c1⟩ => k ≤ q ∧ tke b k = 0) (fun k ⟨A1, c1⟩ => [.row (.slice A1 k c1) 43 4 k (rcs (tks b k)), .rd (some ⟨g1_11, 0, none⟩) 1 1 1 [(.slice A n c)], .blk g8 27 [(.slice A1 k c1)], .blk g2 24 [(.int .i64 ((0 : Nat) : Int))], .blk g1 27 [(.slice none 0 0)], .rd A 1 n c (b.map b8)]) (fun er => ¬ er = 0 ∧ bte b z = er) (fun er => [.blk g1 27 [(.slice none 0 0)], .blk g2 24 [(.int .i64 ((er : Nat) : Int))]])  (none, 0) (⟨by omega, rfl⟩) [0, 2, 3, 4, 5, 6] ⟨by decide, rfl⟩ [2, 1, 6] rfl rfl (fun _ _ => rfl) (fun _ => rfl) (fun _ _ => rfl) (fun _ _ => rfl) rfl (fun _ => trivial) ?_ ?_ ?_
    ·
     intro C2 w2 lo2 rs2 l D m k t th rc hrec hk hp
     obtain ⟨A1, c1⟩ := t
     obtain ⟨B, rfl⟩ : ∃ x, x = th := ⟨_, rfl⟩
     have hp : k ≤ q ∧ tke b k = 0 := hp
     have hk : k < (n + 32 - 1) / 32 := hk
     have hmin : min 32 (n - 32 * k) = 32 := by omega
     have hkq : k < q := by omega
     have hcl := chk_len hb hnq hkq
     have hF : Wid (Fence.wide.inRound l) := wid_round l
     refine T_re [(4, (.pointer (some ⟨g1, 0, none⟩))), (5, (.pointer (some ⟨g2, 0, none⟩))), (6, (.pointer (some ⟨g8, 0, none⟩))), (28, (.slice B (min 32 (n - 32 * k)) (min 32 (n - 32 * k))))] (sc rfl (sc rfl (sc rfl (sc rfl sn)))) ?_
     refine T_he [0, 1, 2, 3, 4, 5, 6, 7, 8] [.rd B 1 (min 32 (n - 32 * k)) (min 32 (n - 32 * k)) ((List.take (min 32 (n - 32 * k)) (List.drop (32 * k) b)).map b8), .obj l (.loop rc), .obj D (.deferred (some [])), .row (.slice A1 k c1) 43 4 k (rcs (tks b k)), .rd (some ⟨g1_11, 0, none⟩) 1 1 1 [(.slice A n c)], .blk g8 27 [(.slice A1 k c1)], .blk g2 24 [(.int .i64 ((0 : Nat) : Int))], .blk g1 27 [(.slice none 0 0)], .rd A 1 n c (b.map b8)] ⟨by decide, rfl⟩ ?_
     refine T_slot 28 (.slice B (min 32 (n - 32 * k)) (min 32 (n - 32 * k))) (.slice B 32 32) rfl (by rw [hmin]) ?_
     refine T_as 0 _ (.rd B 1 32 32 ((chk b k).map b8)) rfl (by rw [hmin]; rfl) ?_
     refine T_reg hF rfl ?_
     refine la rfl rfl rfl rfl rfl ?_
     refine L_nil ?_
     refine T_begun 1 rfl hrec ?_
     refine T_block ?_
     refine Tsr hF rfl ?_
     refine lm rfl rfl rfl rfl rfl ?_
     refine L_op rfl (op_cn (fun w hw => rtake_f (chk b k) B 32 32 w (hok_cons ((src_rd 1 rfl) w hw) (hok_nil w)) sd sd) (enters_of Try.func45 kr rfl) rfl rfl rfl rfl rfl (fun t13 q14 => ?_))
     refine lm rfl rfl rfl rfl rfl ?_
     refine lo rfl (pr_ext (vs := [(.agg [(.bool ((rtk (chk b k)).d)), (.int .i64 (i64 (rtk (chk b k)).k)), (.int .i64 (i64 (rtk (chk b k)).v)), (.int .i64 (i64 (rtk (chk b k)).s))].toArray), (.int .i64 (((rte (chk b k)) : Nat) : Int))]) rfl rfl rfl) rfl rfl ?_
     refine lo rfl (pr_ext (vs := [(.agg [(.bool ((rtk (chk b k)).d)), (.int .i64 (i64 (rtk (chk b k)).k)), (.int .i64 (i64 (rtk (chk b k)).v)), (.int .i64 (i64 (rtk (chk b k)).s))].toArray), (.int .i64 (((rte (chk b k)) : Nat) : Int))]) rfl rfl rfl) rfl rfl ?_
     refine L_op rfl (op_alloc (z := .agg [(.bool false), (.int .i64 ((0 : Nat) : Int)), (.int .i64 ((0 : Nat) : Int)), (.int .i64 ((0 : Nat) : Int))].toArray) (zs := [(.bool false), (.int .i64 ((0 : Nat) : Int)), (.int .i64 ((0 : Nat) : Int)), (.int .i64 ((0 : Nat) : Int))]) kr rfl rfl rfl rfl (fun g15 => ?_))
     refine L_op rfl (op_sto (n := 4) (vs := [(.bool ((rtk (chk b k)).d)), (.int .i64 (i64 (rtk (chk b k)).k)), (.int .i64 (i64 (rtk (chk b k)).v)), (.int .i64 (i64 (rtk (chk b k)).s))]) 0 rfl rfl kr (by simp [Value.oneCell']) kr kr rfl rfl rfl rfl ?_)
     refine la rfl rfl rfl rfl rfl ?_
     refine L_nil ?_
     refine T_seq ?_
     refine Tsr hF rfl ?_
     refine lm rfl rfl rfl rfl rfl ?_
     refine lo rfl (pr_cmp (bo := .neq) (nc_ne (a := (rte (chk b k))) (b := 0)) rfl rfl rfl rfl) rfl rfl ?_
     refine L_nil ?_
     refine T_cond ((rte (chk b k)) != 0) rfl (fun hc_16 => ?_) (fun hc_16 => ?_)
     ·
      have hc_16 : ¬ (rte (chk b k)) = 0 := by simpa using hc_16
      refine Tsr hF rfl ?_
      refine lm rfl rfl rfl rfl rfl ?_
      refine L_op rfl (op_store (vs := [(.slice none 0 0)]) (cs' := [(.slice none 0 0)]) 8 rfl rfl kr (one_one rfl) (by first | decide | simp | exact Nat.le_refl _) rfl rfl rfl rfl rfl ?_)
      refine L_op rfl (op_store (vs := [(.int .i64 (((rte (chk b k)) : Nat) : Int))]) (cs' := [(.int .i64 (((rte (chk b k)) : Nat) : Int))]) 8 rfl rfl kr (one_one rfl) (by first | decide | simp | exact Nat.le_refl _) rfl rfl rfl rfl rfl ?_)
      refine L_nil ?_
      refine T_ret ?_
      exact T_on (rte (chk b k)) (⟨by assumption, bte_err hz1 hz2 hzq (by omega) hkq hp.2 (by assumption)⟩) [3, 5, 1, 0] ⟨by decide, rfl⟩
     ·
      have hc_16 : (rte (chk b k)) = 0 := by simpa using hc_16
      refine T_skip ?_
      refine T_reg hF rfl ?_
      refine lq rfl (ld_blk 6 rfl rfl Try.underlying27 rfl rfl rfl) rfl rfl ?_
      refine lq rfl (ld_agg (ds := [(.bool ((rtk (chk b k)).d)), (.int .i64 (i64 (rtk (chk b k)).k)), (.int .i64 (i64 (rtk (chk b k)).v)), (.int .i64 (i64 (rtk (chk b k)).s))]) 0 rfl agg_all Try.underlying43 rfl kr rfl rfl) rfl rfl ?_
      refine L_op rfl (op_bslice (e := 43) (zs := [(.bool ((rtk (chk b k)).d)), (.int .i64 (i64 (rtk (chk b k)).k)), (.int .i64 (i64 (rtk (chk b k)).v)), (.int .i64 (i64 (rtk (chk b k)).s))]) (qs := [(0, (.agg [(.bool ((rtk (chk b k)).d)), (.int .i64 (i64 (rtk (chk b k)).k)), (.int .i64 (i64 (rtk (chk b k)).v)), (.int .i64 (i64 (rtk (chk b k)).s))].toArray))]) (fun _ => by kernel_rfl) rfl rfl rfl rfl (fun g17 => ?_))
      refine L_op rfl (op_append (z := .agg [(.bool false), (.int .i64 ((0 : Nat) : Int)), (.int .i64 ((0 : Nat) : Int)), (.int .i64 ((0 : Nat) : Int))].toArray) (size := 4) (bytes := 32) 5 rfl Try.underlying27 kr kr (by decide) (src_blk (z := 4) (ds := [(.bool ((rtk (chk b k)).d)), (.int .i64 (i64 (rtk (chk b k)).k)), (.int .i64 (i64 (rtk (chk b k)).v)), (.int .i64 (i64 (rtk (chk b k)).s))]) 0 rfl rfl rfl sd sd) (by simp [Value.oneCell']) sd sd rfl rfl rfl rfl rfl (fun A18 C19 => ?_))
      refine T_as 0 _ (.row (.slice A18 (k + 1) C19) 43 4 (k + 1) (rcs ((tks b k) ++ [(Rc.mk ((rtk (chk b k)).d) ((rtk (chk b k)).k) ((rtk (chk b k)).v) ((rtk (chk b k)).s))]))) rfl (by first | rfl | (congr 1; simp; done) | (simp only [List.map_append]; rfl) | (rw [List.map_append]; rfl) | (rw [rcs_app]; rfl)) ?_
      refine L_op rfl (op_store (vs := [(.slice A18 (k + 1) C19)]) (cs' := [(.slice A18 (k + 1) C19)]) 7 rfl rfl kr (one_one rfl) (by first | decide | simp | exact Nat.le_refl _) rfl rfl rfl rfl rfl ?_)
      refine L_nil ?_
      refine T_as 1 _ (.row (.slice A18 (k + 1) C19) 43 4 (k + 1) (rcs (tks b (k + 1)))) rfl (by rfl) ?_
      exact T_on (A18, C19) (⟨by omega, tke_on hp.2 (by assumption)⟩) [4, 6, 0, 7, 1, 8, 9, 10] ⟨by decide, rfl⟩
    ·
     intro D t hp
     obtain ⟨A1, c1⟩ := t
     have hp : ((n + 32 - 1) / 32) ≤ q ∧ tke b ((n + 32 - 1) / 32) = 0 := hp
     have hnv : (n + 32 - 1) / 32 = q := by omega
     have htz : tke b q = 0 := hnv ▸ hp.2
     refine T_re [(4, (.pointer (some ⟨g1, 0, none⟩))), (5, (.pointer (some ⟨g2, 0, none⟩))), (6, (.pointer (some ⟨g8, 0, none⟩)))] (sc rfl (sc rfl (sc rfl sn))) ?_
     refine T_he [0, 1, 2, 3, 4, 5, 6] [.obj D (.deferred (some [])), .row (.slice A1 ((n + 32 - 1) / 32) c1) 43 4 ((n + 32 - 1) / 32) (rcs (tks b ((n + 32 - 1) / 32))), .rd (some ⟨g1_11, 0, none⟩) 1 1 1 [(.slice A n c)], .blk g8 27 [(.slice A1 ((n + 32 - 1) / 32) c1)], .blk g2 24 [(.int .i64 ((0 : Nat) : Int))], .blk g1 27 [(.slice none 0 0)], .rd A 1 n c (b.map b8)] ⟨by decide, rfl⟩ ?_
     refine T_as 1 _ (.row (.slice A1 q c1) 43 4 q (rcs (tks b q))) rfl (by rw [hnv]) ?_
     refine T_as 3 _ (.blk g8 27 [(.slice A1 q c1)]) rfl (by rw [hnv]) ?_
     refine Tsr hF rfl ?_
     refine lq rfl (ld_blk 0 rfl rfl Try.underlying27 rfl rfl rfl) rfl rfl ?_
     refine L_op rfl (op_store (vs := [(.slice A1 q c1)]) (cs' := [(.slice A1 q c1)]) 5 rfl rfl kr (one_one rfl) (by first | decide | simp | exact Nat.le_refl _) rfl rfl rfl rfl rfl ?_)
     refine L_op rfl (op_store (vs := [(.int .i64 ((0 : Nat) : Int))]) (cs' := [(.int .i64 ((0 : Nat) : Int))]) 5 rfl rfl kr (one_one rfl) (by first | decide | simp | exact Nat.le_refl _) rfl rfl rfl rfl rfl ?_)
     refine L_nil ?_
     refine T_ret ?_
     refine T_as 1 _ (.blk g1 27 [(.slice A1 (btn b z) c1)]) rfl (by first | rfl | (rw [btn_no (by rw [bte_arg (mayb_f (by assumption))]; decide), btk_no (by rw [bte_arg (mayb_f (by assumption))]; decide)]; rfl) | rw [btn_no (by rw [bte_arg (mayb_f (by assumption))]; decide)] | rw [bte_arg (mayb_f (by assumption))] | (rw [btn_no (by rw [bte_short hz1 hz2 (by omega)]; decide), btk_no (by rw [bte_short hz1 hz2 (by omega)]; decide)]; rfl) | rw [btn_no (by rw [bte_short hz1 hz2 (by omega)]; decide)] | rw [bte_short hz1 hz2 (by omega)] | (rw [btn_no (by rw [bte_long hz1 hz2 (by omega)]; decide), btk_no (by rw [bte_long hz1 hz2 (by omega)]; decide)]; rfl) | rw [btn_no (by rw [bte_long hz1 hz2 (by omega)]; decide)] | rw [bte_long hz1 hz2 (by omega)] | (rw [btn_no (by rw [he2]; assumption), btk_no (by rw [he2]; assumption)]; rfl) | rw [btn_no (by rw [he2]; assumption)] | rw [he2] | rw [btn_ok ((bte_ok hz1 hz2 hzq (by omega)).trans htz) hzq, btk_ok ((bte_ok hz1 hz2 hzq (by omega)).trans htz) hzq] | rw [btn_ok ((bte_ok hz1 hz2 hzq (by omega)).trans htz) hzq] | rw [(bte_ok hz1 hz2 hzq (by omega)).trans htz]) ?_
     refine T_as 1 _ (.blk g2 24 [(.int .i64 (((bte b z) : Nat) : Int))]) rfl (by first | rfl | (rw [btn_no (by rw [bte_arg (mayb_f (by assumption))]; decide), btk_no (by rw [bte_arg (mayb_f (by assumption))]; decide)]; rfl) | rw [btn_no (by rw [bte_arg (mayb_f (by assumption))]; decide)] | rw [bte_arg (mayb_f (by assumption))] | (rw [btn_no (by rw [bte_short hz1 hz2 (by omega)]; decide), btk_no (by rw [bte_short hz1 hz2 (by omega)]; decide)]; rfl) | rw [btn_no (by rw [bte_short hz1 hz2 (by omega)]; decide)] | rw [bte_short hz1 hz2 (by omega)] | (rw [btn_no (by rw [bte_long hz1 hz2 (by omega)]; decide), btk_no (by rw [bte_long hz1 hz2 (by omega)]; decide)]; rfl) | rw [btn_no (by rw [bte_long hz1 hz2 (by omega)]; decide)] | rw [bte_long hz1 hz2 (by omega)] | (rw [btn_no (by rw [he2]; assumption), btk_no (by rw [he2]; assumption)]; rfl) | rw [btn_no (by rw [he2]; assumption)] | rw [he2] | rw [btn_ok ((bte_ok hz1 hz2 hzq (by omega)).trans htz) hzq, btk_ok ((bte_ok hz1 hz2 hzq (by omega)).trans htz) hzq] | rw [btn_ok ((bte_ok hz1 hz2 hzq (by omega)).trans htz) hzq] | rw [(bte_ok hz1 hz2 hzq (by omega)).trans htz]) ?_
     refine T_as 3 _ (.row (.slice A1 (btn b z) c1) 43 4 (btn b z) (rcs (btk b z))) rfl (by first | rfl | (rw [btn_no (by rw [bte_arg (mayb_f (by assumption))]; decide), btk_no (by rw [bte_arg (mayb_f (by assumption))]; decide)]; rfl) | rw [btn_no (by rw [bte_arg (mayb_f (by assumption))]; decide)] | rw [bte_arg (mayb_f (by assumption))] | (rw [btn_no (by rw [bte_short hz1 hz2 (by omega)]; decide), btk_no (by rw [bte_short hz1 hz2 (by omega)]; decide)]; rfl) | rw [btn_no (by rw [bte_short hz1 hz2 (by omega)]; decide)] | rw [bte_short hz1 hz2 (by omega)] | (rw [btn_no (by rw [bte_long hz1 hz2 (by omega)]; decide), btk_no (by rw [bte_long hz1 hz2 (by omega)]; decide)]; rfl) | rw [btn_no (by rw [bte_long hz1 hz2 (by omega)]; decide)] | rw [bte_long hz1 hz2 (by omega)] | (rw [btn_no (by rw [he2]; assumption), btk_no (by rw [he2]; assumption)]; rfl) | rw [btn_no (by rw [he2]; assumption)] | rw [he2] | rw [btn_ok ((bte_ok hz1 hz2 hzq (by omega)).trans htz) hzq, btk_ok ((bte_ok hz1 hz2 hzq (by omega)).trans htz) hzq] | rw [btn_ok ((bte_ok hz1 hz2 hzq (by omega)).trans htz) hzq] | rw [(bte_ok hz1 hz2 hzq (by omega)).trans htz]) ?_
     exact T_finM 4 rfl (A1, c1) (by first | trivial | omega | (simp; done)) (rescc 2 1 rfl rfl rfl rfl rfl Try.underlying27 rfl Try.underlying24 rfl) [0] ⟨by decide, rfl⟩ rfl
    ·
     intro D t hq
     obtain ⟨er, rfl⟩ : ∃ x, x = t := ⟨_, rfl⟩
     have hq : ¬ er = 0 ∧ bte b z = er := hq
     obtain ⟨he1, he2⟩ := hq
     refine T_ret ?_
     refine T_re [(4, (.pointer (some ⟨g1, 0, none⟩))), (5, (.pointer (some ⟨g2, 0, none⟩)))] (sc rfl (sc rfl sn)) ?_
     refine T_he [0, 1, 2] [.obj D (.deferred (some [])), .blk g1 27 [(.slice none 0 0)], .blk g2 24 [(.int .i64 ((er : Nat) : Int))]] ⟨by decide, rfl⟩ ?_
     refine T_as 1 _ (.blk g1 27 [(.slice none (btn b z) 0)]) rfl (by first | rfl | (rw [btn_no (by rw [bte_arg (mayb_f (by assumption))]; decide), btk_no (by rw [bte_arg (mayb_f (by assumption))]; decide)]; rfl) | rw [btn_no (by rw [bte_arg (mayb_f (by assumption))]; decide)] | rw [bte_arg (mayb_f (by assumption))] | (rw [btn_no (by rw [bte_short hz1 hz2 (by omega)]; decide), btk_no (by rw [bte_short hz1 hz2 (by omega)]; decide)]; rfl) | rw [btn_no (by rw [bte_short hz1 hz2 (by omega)]; decide)] | rw [bte_short hz1 hz2 (by omega)] | (rw [btn_no (by rw [bte_long hz1 hz2 (by omega)]; decide), btk_no (by rw [bte_long hz1 hz2 (by omega)]; decide)]; rfl) | rw [btn_no (by rw [bte_long hz1 hz2 (by omega)]; decide)] | rw [bte_long hz1 hz2 (by omega)] | (rw [btn_no (by rw [he2]; assumption), btk_no (by rw [he2]; assumption)]; rfl) | rw [btn_no (by rw [he2]; assumption)] | rw [he2] | rw [btn_ok ((bte_ok hz1 hz2 hzq (by omega)).trans htz) hzq, btk_ok ((bte_ok hz1 hz2 hzq (by omega)).trans htz) hzq] | rw [btn_ok ((bte_ok hz1 hz2 hzq (by omega)).trans htz) hzq] | rw [(bte_ok hz1 hz2 hzq (by omega)).trans htz]) ?_
     refine T_as 2 _ (.blk g2 24 [(.int .i64 (((bte b z) : Nat) : Int))]) rfl (by first | rfl | (rw [btn_no (by rw [bte_arg (mayb_f (by assumption))]; decide), btk_no (by rw [bte_arg (mayb_f (by assumption))]; decide)]; rfl) | rw [btn_no (by rw [bte_arg (mayb_f (by assumption))]; decide)] | rw [bte_arg (mayb_f (by assumption))] | (rw [btn_no (by rw [bte_short hz1 hz2 (by omega)]; decide), btk_no (by rw [bte_short hz1 hz2 (by omega)]; decide)]; rfl) | rw [btn_no (by rw [bte_short hz1 hz2 (by omega)]; decide)] | rw [bte_short hz1 hz2 (by omega)] | (rw [btn_no (by rw [bte_long hz1 hz2 (by omega)]; decide), btk_no (by rw [bte_long hz1 hz2 (by omega)]; decide)]; rfl) | rw [btn_no (by rw [bte_long hz1 hz2 (by omega)]; decide)] | rw [bte_long hz1 hz2 (by omega)] | (rw [btn_no (by rw [he2]; assumption), btk_no (by rw [he2]; assumption)]; rfl) | rw [btn_no (by rw [he2]; assumption)] | rw [he2] | rw [btn_ok ((bte_ok hz1 hz2 hzq (by omega)).trans htz) hzq, btk_ok ((bte_ok hz1 hz2 hzq (by omega)).trans htz) hzq] | rw [btn_ok ((bte_ok hz1 hz2 hzq (by omega)).trans htz) hzq] | rw [(bte_ok hz1 hz2 hzq (by omega)).trans htz]) ?_
     refine T_nilrow 43 4 ?_
     refine T_as 0 _ (.row (.slice none (btn b z) 0) 43 4 (btn b z) (rcs (btk b z))) rfl (by first | rfl | (rw [btn_no (by rw [bte_arg (mayb_f (by assumption))]; decide), btk_no (by rw [bte_arg (mayb_f (by assumption))]; decide)]; rfl) | rw [btn_no (by rw [bte_arg (mayb_f (by assumption))]; decide)] | rw [bte_arg (mayb_f (by assumption))] | (rw [btn_no (by rw [bte_short hz1 hz2 (by omega)]; decide), btk_no (by rw [bte_short hz1 hz2 (by omega)]; decide)]; rfl) | rw [btn_no (by rw [bte_short hz1 hz2 (by omega)]; decide)] | rw [bte_short hz1 hz2 (by omega)] | (rw [btn_no (by rw [bte_long hz1 hz2 (by omega)]; decide), btk_no (by rw [bte_long hz1 hz2 (by omega)]; decide)]; rfl) | rw [btn_no (by rw [bte_long hz1 hz2 (by omega)]; decide)] | rw [bte_long hz1 hz2 (by omega)] | (rw [btn_no (by rw [he2]; assumption), btk_no (by rw [he2]; assumption)]; rfl) | rw [btn_no (by rw [he2]; assumption)] | rw [he2] | rw [btn_ok ((bte_ok hz1 hz2 hzq (by omega)).trans htz) hzq, btk_ok ((bte_ok hz1 hz2 hzq (by omega)).trans htz) hzq] | rw [btn_ok ((bte_ok hz1 hz2 hzq (by omega)).trans htz) hzq] | rw [(bte_ok hz1 hz2 hzq (by omega)).trans htz]) ?_
     exact T_finM 3 rfl (none, 0) (by first | trivial | omega | (simp; done)) (rescc 2 1 rfl rfl rfl rfl rfl Try.underlying27 rfl Try.underlying24 rfl) [0] ⟨by decide, rfl⟩ rfl
set_option maxHeartbeats 4000000 in
theorem rbtake_f (b : List (BitVec 8)) (z : Int) (A : Option Addr) (n : Nat) (c : Nat) (w : World) (hO : HOK [.rd A 1 n c (b.map b8)] w) (hb : b.length = n) (hn : n ≤ 1000000) : Calls Try.prog 22 [(.slice A n c), (.int .i64 z)].toArray w (Ret (T := Option Addr × Nat) [] w (fun ⟨B, e⟩ => True) (fun ⟨B, e⟩ => (.tuple [(.slice B (btn b z) e), (.int .i64 (((bte b z) : Nat) : Int))].toArray)) (fun ⟨B, e⟩ => [.row (.slice B (btn b z) e) 43 4 (btn b z) (rcs (btk b z))])) := by
 have hF : Wid Fence.wide := wid_wide
 refine enter (c := _) Try.func22 rfl [] _ [.rd A 1 n c (b.map b8)] (by rw [Try.ntmps22]; rfl) (own_rds hO rfl) ?_
 rw [Try.ntmps22]
 refine T_re [(0, (.slice A n c)), (1, (.int .i64 z))] (sc rfl (sc rfl sn)) ?_
 refine T_he [0] [.rd A 1 n c (b.map b8)] ⟨by decide, rfl⟩ ?_
 refine Tsr hF rfl ?_
 refine la rfl rfl rfl rfl rfl ?_
 refine la rfl rfl rfl rfl rfl ?_
 refine L_nil ?_
 refine T_seq ?_
 refine T_block ?_
 refine Tsr hF rfl ?_
 refine lm rfl rfl rfl rfl rfl ?_
 refine L_op rfl (op_cn (fun w hw => rmay_f z w (hok_nil w) ) (enters_of Try.func41 kr rfl) rfl rfl rfl rfl rfl (fun t1 q2 => ?_))
 refine lo rfl (pr_un rfl rfl rfl) rfl rfl ?_
 refine la rfl rfl rfl rfl rfl ?_
 refine L_nil ?_
 refine T_cond (!(mayb z)) rfl (fun hc_3 => ?_) (fun hc_3 => ?_)
 ·
  refine Tsr hF rfl ?_
  refine la rfl rfl rfl rfl rfl ?_
  refine la rfl rfl rfl rfl rfl ?_
  refine L_nil ?_
  refine T_ret ?_
  refine T_slot 4 (.slice none 0 0) (.slice none (btn b z) 0) rfl (by first | rfl | (rw [btn_no (by rw [bte_arg (mayb_f (by assumption))]; decide), btk_no (by rw [bte_arg (mayb_f (by assumption))]; decide)]; rfl) | rw [btn_no (by rw [bte_arg (mayb_f (by assumption))]; decide)] | rw [bte_arg (mayb_f (by assumption))] | (rw [btn_no (by rw [bte_short hz1 hz2 (by omega)]; decide), btk_no (by rw [bte_short hz1 hz2 (by omega)]; decide)]; rfl) | rw [btn_no (by rw [bte_short hz1 hz2 (by omega)]; decide)] | rw [bte_short hz1 hz2 (by omega)] | (rw [btn_no (by rw [bte_long hz1 hz2 (by omega)]; decide), btk_no (by rw [bte_long hz1 hz2 (by omega)]; decide)]; rfl) | rw [btn_no (by rw [bte_long hz1 hz2 (by omega)]; decide)] | rw [bte_long hz1 hz2 (by omega)] | (rw [btn_no (by rw [bte_err hz1 hz2 hzq (by omega) (by omega : k < q) hp.2 (by assumption)]; assumption), btk_no (by rw [bte_err hz1 hz2 hzq (by omega) (by omega : k < q) hp.2 (by assumption)]; assumption)]; rfl) | rw [btn_no (by rw [bte_err hz1 hz2 hzq (by omega) (by omega : k < q) hp.2 (by assumption)]; assumption)] | rw [bte_err hz1 hz2 hzq (by omega) (by omega : k < q) hp.2 (by assumption)] | rw [btn_ok ((bte_ok hz1 hz2 hzq (by omega)).trans htz) hzq, btk_ok ((bte_ok hz1 hz2 hzq (by omega)).trans htz) hzq] | rw [btn_ok ((bte_ok hz1 hz2 hzq (by omega)).trans htz) hzq] | rw [(bte_ok hz1 hz2 hzq (by omega)).trans htz]) ?_
  refine T_slot 5 (.int .i64 ((1 : Nat) : Int)) (.int .i64 (((bte b z) : Nat) : Int)) rfl (by first | rfl | (rw [btn_no (by rw [bte_arg (mayb_f (by assumption))]; decide), btk_no (by rw [bte_arg (mayb_f (by assumption))]; decide)]; rfl) | rw [btn_no (by rw [bte_arg (mayb_f (by assumption))]; decide)] | rw [bte_arg (mayb_f (by assumption))] | (rw [btn_no (by rw [bte_short hz1 hz2 (by omega)]; decide), btk_no (by rw [bte_short hz1 hz2 (by omega)]; decide)]; rfl) | rw [btn_no (by rw [bte_short hz1 hz2 (by omega)]; decide)] | rw [bte_short hz1 hz2 (by omega)] | (rw [btn_no (by rw [bte_long hz1 hz2 (by omega)]; decide), btk_no (by rw [bte_long hz1 hz2 (by omega)]; decide)]; rfl) | rw [btn_no (by rw [bte_long hz1 hz2 (by omega)]; decide)] | rw [bte_long hz1 hz2 (by omega)] | (rw [btn_no (by rw [bte_err hz1 hz2 hzq (by omega) (by omega : k < q) hp.2 (by assumption)]; assumption), btk_no (by rw [bte_err hz1 hz2 hzq (by omega) (by omega : k < q) hp.2 (by assumption)]; assumption)]; rfl) | rw [btn_no (by rw [bte_err hz1 hz2 hzq (by omega) (by omega : k < q) hp.2 (by assumption)]; assumption)] | rw [bte_err hz1 hz2 hzq (by omega) (by omega : k < q) hp.2 (by assumption)] | rw [btn_ok ((bte_ok hz1 hz2 hzq (by omega)).trans htz) hzq, btk_ok ((bte_ok hz1 hz2 hzq (by omega)).trans htz) hzq] | rw [btn_ok ((bte_ok hz1 hz2 hzq (by omega)).trans htz) hzq] | rw [(bte_ok hz1 hz2 hzq (by omega)).trans htz]) ?_
  refine T_nilrow 43 4 ?_
  refine T_as 0 _ (.row (.slice none (btn b z) 0) 43 4 (btn b z) (rcs (btk b z))) rfl (by first | rfl | (rw [btn_no (by rw [bte_arg (mayb_f (by assumption))]; decide), btk_no (by rw [bte_arg (mayb_f (by assumption))]; decide)]; rfl) | rw [btn_no (by rw [bte_arg (mayb_f (by assumption))]; decide)] | rw [bte_arg (mayb_f (by assumption))] | (rw [btn_no (by rw [bte_short hz1 hz2 (by omega)]; decide), btk_no (by rw [bte_short hz1 hz2 (by omega)]; decide)]; rfl) | rw [btn_no (by rw [bte_short hz1 hz2 (by omega)]; decide)] | rw [bte_short hz1 hz2 (by omega)] | (rw [btn_no (by rw [bte_long hz1 hz2 (by omega)]; decide), btk_no (by rw [bte_long hz1 hz2 (by omega)]; decide)]; rfl) | rw [btn_no (by rw [bte_long hz1 hz2 (by omega)]; decide)] | rw [bte_long hz1 hz2 (by omega)] | (rw [btn_no (by rw [bte_err hz1 hz2 hzq (by omega) (by omega : k < q) hp.2 (by assumption)]; assumption), btk_no (by rw [bte_err hz1 hz2 hzq (by omega) (by omega : k < q) hp.2 (by assumption)]; assumption)]; rfl) | rw [btn_no (by rw [bte_err hz1 hz2 hzq (by omega) (by omega : k < q) hp.2 (by assumption)]; assumption)] | rw [bte_err hz1 hz2 hzq (by omega) (by omega : k < q) hp.2 (by assumption)] | rw [btn_ok ((bte_ok hz1 hz2 hzq (by omega)).trans htz) hzq, btk_ok ((bte_ok hz1 hz2 hzq (by omega)).trans htz) hzq] | rw [btn_ok ((bte_ok hz1 hz2 hzq (by omega)).trans htz) hzq] | rw [(bte_ok hz1 hz2 hzq (by omega)).trans htz]) ?_
  exact T_fin (none, 0) (by first | trivial | omega | (simp; done)) (res2 rfl rfl rfl) [0] ⟨by decide, rfl⟩ rfl
 ·
  refine Tsr hF rfl ?_
  refine lm rfl rfl rfl rfl rfl ?_
  obtain ⟨hz1, hz2⟩ := mayb_t (z := z) (by assumption)
  refine lo rfl (pr_len_sl Try.underlying23 rfl rfl) rfl rfl ?_
  refine lm rfl rfl rfl rfl rfl ?_
  refine lo rfl (pr_mul (zw_i64 (z := (((32 : Nat) : Int) * z)) sd) rfl rfl rfl) rfl rfl ?_
  refine lo rfl (pr_cmp (bo := .lss) (k := .i64) (a := ((n : Nat) : Int)) (b := (((32 : Nat) : Int) * z)) (c := decide (((n : Nat) : Int) < (((32 : Nat) : Int) * z))) rfl rfl rfl rfl rfl) rfl rfl ?_
  refine la rfl rfl rfl rfl rfl ?_
  refine L_nil ?_
  refine T_cond (decide (((n : Nat) : Int) < (((32 : Nat) : Int) * z))) rfl (fun hc_4 => ?_) (fun hc_4 => ?_)
  ·
   have hc_4 := of_decide_eq_true hc_4
   refine Tsr hF rfl ?_
   refine la rfl rfl rfl rfl rfl ?_
   refine la rfl rfl rfl rfl rfl ?_
   refine L_nil ?_
   refine T_ret ?_
   refine T_slot 4 (.slice none 0 0) (.slice none (btn b z) 0) rfl (by first | rfl | (rw [btn_no (by rw [bte_arg (mayb_f (by assumption))]; decide), btk_no (by rw [bte_arg (mayb_f (by assumption))]; decide)]; rfl) | rw [btn_no (by rw [bte_arg (mayb_f (by assumption))]; decide)] | rw [bte_arg (mayb_f (by assumption))] | (rw [btn_no (by rw [bte_short hz1 hz2 (by omega)]; decide), btk_no (by rw [bte_short hz1 hz2 (by omega)]; decide)]; rfl) | rw [btn_no (by rw [bte_short hz1 hz2 (by omega)]; decide)] | rw [bte_short hz1 hz2 (by omega)] | (rw [btn_no (by rw [bte_long hz1 hz2 (by omega)]; decide), btk_no (by rw [bte_long hz1 hz2 (by omega)]; decide)]; rfl) | rw [btn_no (by rw [bte_long hz1 hz2 (by omega)]; decide)] | rw [bte_long hz1 hz2 (by omega)] | (rw [btn_no (by rw [bte_err hz1 hz2 hzq (by omega) (by omega : k < q) hp.2 (by assumption)]; assumption), btk_no (by rw [bte_err hz1 hz2 hzq (by omega) (by omega : k < q) hp.2 (by assumption)]; assumption)]; rfl) | rw [btn_no (by rw [bte_err hz1 hz2 hzq (by omega) (by omega : k < q) hp.2 (by assumption)]; assumption)] | rw [bte_err hz1 hz2 hzq (by omega) (by omega : k < q) hp.2 (by assumption)] | rw [btn_ok ((bte_ok hz1 hz2 hzq (by omega)).trans htz) hzq, btk_ok ((bte_ok hz1 hz2 hzq (by omega)).trans htz) hzq] | rw [btn_ok ((bte_ok hz1 hz2 hzq (by omega)).trans htz) hzq] | rw [(bte_ok hz1 hz2 hzq (by omega)).trans htz]) ?_
   refine T_slot 5 (.int .i64 ((3 : Nat) : Int)) (.int .i64 (((bte b z) : Nat) : Int)) rfl (by first | rfl | (rw [btn_no (by rw [bte_arg (mayb_f (by assumption))]; decide), btk_no (by rw [bte_arg (mayb_f (by assumption))]; decide)]; rfl) | rw [btn_no (by rw [bte_arg (mayb_f (by assumption))]; decide)] | rw [bte_arg (mayb_f (by assumption))] | (rw [btn_no (by rw [bte_short hz1 hz2 (by omega)]; decide), btk_no (by rw [bte_short hz1 hz2 (by omega)]; decide)]; rfl) | rw [btn_no (by rw [bte_short hz1 hz2 (by omega)]; decide)] | rw [bte_short hz1 hz2 (by omega)] | (rw [btn_no (by rw [bte_long hz1 hz2 (by omega)]; decide), btk_no (by rw [bte_long hz1 hz2 (by omega)]; decide)]; rfl) | rw [btn_no (by rw [bte_long hz1 hz2 (by omega)]; decide)] | rw [bte_long hz1 hz2 (by omega)] | (rw [btn_no (by rw [bte_err hz1 hz2 hzq (by omega) (by omega : k < q) hp.2 (by assumption)]; assumption), btk_no (by rw [bte_err hz1 hz2 hzq (by omega) (by omega : k < q) hp.2 (by assumption)]; assumption)]; rfl) | rw [btn_no (by rw [bte_err hz1 hz2 hzq (by omega) (by omega : k < q) hp.2 (by assumption)]; assumption)] | rw [bte_err hz1 hz2 hzq (by omega) (by omega : k < q) hp.2 (by assumption)] | rw [btn_ok ((bte_ok hz1 hz2 hzq (by omega)).trans htz) hzq, btk_ok ((bte_ok hz1 hz2 hzq (by omega)).trans htz) hzq] | rw [btn_ok ((bte_ok hz1 hz2 hzq (by omega)).trans htz) hzq] | rw [(bte_ok hz1 hz2 hzq (by omega)).trans htz]) ?_
   refine T_nilrow 43 4 ?_
   refine T_as 0 _ (.row (.slice none (btn b z) 0) 43 4 (btn b z) (rcs (btk b z))) rfl (by first | rfl | (rw [btn_no (by rw [bte_arg (mayb_f (by assumption))]; decide), btk_no (by rw [bte_arg (mayb_f (by assumption))]; decide)]; rfl) | rw [btn_no (by rw [bte_arg (mayb_f (by assumption))]; decide)] | rw [bte_arg (mayb_f (by assumption))] | (rw [btn_no (by rw [bte_short hz1 hz2 (by omega)]; decide), btk_no (by rw [bte_short hz1 hz2 (by omega)]; decide)]; rfl) | rw [btn_no (by rw [bte_short hz1 hz2 (by omega)]; decide)] | rw [bte_short hz1 hz2 (by omega)] | (rw [btn_no (by rw [bte_long hz1 hz2 (by omega)]; decide), btk_no (by rw [bte_long hz1 hz2 (by omega)]; decide)]; rfl) | rw [btn_no (by rw [bte_long hz1 hz2 (by omega)]; decide)] | rw [bte_long hz1 hz2 (by omega)] | (rw [btn_no (by rw [bte_err hz1 hz2 hzq (by omega) (by omega : k < q) hp.2 (by assumption)]; assumption), btk_no (by rw [bte_err hz1 hz2 hzq (by omega) (by omega : k < q) hp.2 (by assumption)]; assumption)]; rfl) | rw [btn_no (by rw [bte_err hz1 hz2 hzq (by omega) (by omega : k < q) hp.2 (by assumption)]; assumption)] | rw [bte_err hz1 hz2 hzq (by omega) (by omega : k < q) hp.2 (by assumption)] | rw [btn_ok ((bte_ok hz1 hz2 hzq (by omega)).trans htz) hzq, btk_ok ((bte_ok hz1 hz2 hzq (by omega)).trans htz) hzq] | rw [btn_ok ((bte_ok hz1 hz2 hzq (by omega)).trans htz) hzq] | rw [(bte_ok hz1 hz2 hzq (by omega)).trans htz]) ?_
   exact T_fin (none, 0) (by first | trivial | omega | (simp; done)) (res2 rfl rfl rfl) [0] ⟨by decide, rfl⟩ rfl
  ·
   have hc_4 := of_decide_eq_false hc_4
   refine Tsr hF rfl ?_
   refine lm rfl rfl rfl rfl rfl ?_
   refine lo rfl (pr_len_sl Try.underlying23 rfl rfl) rfl rfl ?_
   refine lm rfl rfl rfl rfl rfl ?_
   refine lo rfl (pr_mul (zw_i64 (z := (((32 : Nat) : Int) * z)) sd) rfl rfl rfl) rfl rfl ?_
   refine lo rfl (pr_cmp (bo := .gtr) (k := .i64) (a := ((n : Nat) : Int)) (b := (((32 : Nat) : Int) * z)) (c := decide ((((32 : Nat) : Int) * z) < ((n : Nat) : Int))) rfl rfl rfl rfl rfl) rfl rfl ?_
   refine la rfl rfl rfl rfl rfl ?_
   refine L_nil ?_
   refine T_cond (decide ((((32 : Nat) : Int) * z) < ((n : Nat) : Int))) rfl (fun hc_5 => ?_) (fun hc_5 => ?_)
   ·
    have hc_5 := of_decide_eq_true hc_5
    refine Tsr hF rfl ?_
    refine la rfl rfl rfl rfl rfl ?_
    refine la rfl rfl rfl rfl rfl ?_
    refine L_nil ?_
    refine T_ret ?_
    refine T_slot 4 (.slice none 0 0) (.slice none (btn b z) 0) rfl (by first | rfl | (rw [btn_no (by rw [bte_arg (mayb_f (by assumption))]; decide), btk_no (by rw [bte_arg (mayb_f (by assumption))]; decide)]; rfl) | rw [btn_no (by rw [bte_arg (mayb_f (by assumption))]; decide)] | rw [bte_arg (mayb_f (by assumption))] | (rw [btn_no (by rw [bte_short hz1 hz2 (by omega)]; decide), btk_no (by rw [bte_short hz1 hz2 (by omega)]; decide)]; rfl) | rw [btn_no (by rw [bte_short hz1 hz2 (by omega)]; decide)] | rw [bte_short hz1 hz2 (by omega)] | (rw [btn_no (by rw [bte_long hz1 hz2 (by omega)]; decide), btk_no (by rw [bte_long hz1 hz2 (by omega)]; decide)]; rfl) | rw [btn_no (by rw [bte_long hz1 hz2 (by omega)]; decide)] | rw [bte_long hz1 hz2 (by omega)] | (rw [btn_no (by rw [bte_err hz1 hz2 hzq (by omega) (by omega : k < q) hp.2 (by assumption)]; assumption), btk_no (by rw [bte_err hz1 hz2 hzq (by omega) (by omega : k < q) hp.2 (by assumption)]; assumption)]; rfl) | rw [btn_no (by rw [bte_err hz1 hz2 hzq (by omega) (by omega : k < q) hp.2 (by assumption)]; assumption)] | rw [bte_err hz1 hz2 hzq (by omega) (by omega : k < q) hp.2 (by assumption)] | rw [btn_ok ((bte_ok hz1 hz2 hzq (by omega)).trans htz) hzq, btk_ok ((bte_ok hz1 hz2 hzq (by omega)).trans htz) hzq] | rw [btn_ok ((bte_ok hz1 hz2 hzq (by omega)).trans htz) hzq] | rw [(bte_ok hz1 hz2 hzq (by omega)).trans htz]) ?_
    refine T_slot 5 (.int .i64 ((4 : Nat) : Int)) (.int .i64 (((bte b z) : Nat) : Int)) rfl (by first | rfl | (rw [btn_no (by rw [bte_arg (mayb_f (by assumption))]; decide), btk_no (by rw [bte_arg (mayb_f (by assumption))]; decide)]; rfl) | rw [btn_no (by rw [bte_arg (mayb_f (by assumption))]; decide)] | rw [bte_arg (mayb_f (by assumption))] | (rw [btn_no (by rw [bte_short hz1 hz2 (by omega)]; decide), btk_no (by rw [bte_short hz1 hz2 (by omega)]; decide)]; rfl) | rw [btn_no (by rw [bte_short hz1 hz2 (by omega)]; decide)] | rw [bte_short hz1 hz2 (by omega)] | (rw [btn_no (by rw [bte_long hz1 hz2 (by omega)]; decide), btk_no (by rw [bte_long hz1 hz2 (by omega)]; decide)]; rfl) | rw [btn_no (by rw [bte_long hz1 hz2 (by omega)]; decide)] | rw [bte_long hz1 hz2 (by omega)] | (rw [btn_no (by rw [bte_err hz1 hz2 hzq (by omega) (by omega : k < q) hp.2 (by assumption)]; assumption), btk_no (by rw [bte_err hz1 hz2 hzq (by omega) (by omega : k < q) hp.2 (by assumption)]; assumption)]; rfl) | rw [btn_no (by rw [bte_err hz1 hz2 hzq (by omega) (by omega : k < q) hp.2 (by assumption)]; assumption)] | rw [bte_err hz1 hz2 hzq (by omega) (by omega : k < q) hp.2 (by assumption)] | rw [btn_ok ((bte_ok hz1 hz2 hzq (by omega)).trans htz) hzq, btk_ok ((bte_ok hz1 hz2 hzq (by omega)).trans htz) hzq] | rw [btn_ok ((bte_ok hz1 hz2 hzq (by omega)).trans htz) hzq] | rw [(bte_ok hz1 hz2 hzq (by omega)).trans htz]) ?_
    refine T_nilrow 43 4 ?_
    refine T_as 0 _ (.row (.slice none (btn b z) 0) 43 4 (btn b z) (rcs (btk b z))) rfl (by first | rfl | (rw [btn_no (by rw [bte_arg (mayb_f (by assumption))]; decide), btk_no (by rw [bte_arg (mayb_f (by assumption))]; decide)]; rfl) | rw [btn_no (by rw [bte_arg (mayb_f (by assumption))]; decide)] | rw [bte_arg (mayb_f (by assumption))] | (rw [btn_no (by rw [bte_short hz1 hz2 (by omega)]; decide), btk_no (by rw [bte_short hz1 hz2 (by omega)]; decide)]; rfl) | rw [btn_no (by rw [bte_short hz1 hz2 (by omega)]; decide)] | rw [bte_short hz1 hz2 (by omega)] | (rw [btn_no (by rw [bte_long hz1 hz2 (by omega)]; decide), btk_no (by rw [bte_long hz1 hz2 (by omega)]; decide)]; rfl) | rw [btn_no (by rw [bte_long hz1 hz2 (by omega)]; decide)] | rw [bte_long hz1 hz2 (by omega)] | (rw [btn_no (by rw [bte_err hz1 hz2 hzq (by omega) (by omega : k < q) hp.2 (by assumption)]; assumption), btk_no (by rw [bte_err hz1 hz2 hzq (by omega) (by omega : k < q) hp.2 (by assumption)]; assumption)]; rfl) | rw [btn_no (by rw [bte_err hz1 hz2 hzq (by omega) (by omega : k < q) hp.2 (by assumption)]; assumption)] | rw [bte_err hz1 hz2 hzq (by omega) (by omega : k < q) hp.2 (by assumption)] | rw [btn_ok ((bte_ok hz1 hz2 hzq (by omega)).trans htz) hzq, btk_ok ((bte_ok hz1 hz2 hzq (by omega)).trans htz) hzq] | rw [btn_ok ((bte_ok hz1 hz2 hzq (by omega)).trans htz) hzq] | rw [(bte_ok hz1 hz2 hzq (by omega)).trans htz]) ?_
    exact T_fin (none, 0) (by first | trivial | omega | (simp; done)) (res2 rfl rfl rfl) [0] ⟨by decide, rfl⟩ rfl
   ·
    have hc_5 := of_decide_eq_false hc_5
    refine T_skip ?_
    refine Tsr hF rfl ?_
    refine la rfl rfl rfl rfl rfl ?_
    obtain ⟨q, hzq⟩ : ∃ q : Nat, z = (q : Int) := ⟨z.toNat, by omega⟩
    have hnq : n = 32 * q := by omega
    refine T_slot 1 (.int .i64 z) (.int .i64 ((q : Nat) : Int)) rfl (by rw [hzq]) ?_
    refine L_nil ?_
    refine T_seq ?_
    refine Tsr hF rfl ?_
    refine la rfl rfl rfl rfl rfl ?_
    refine L_nil ?_
    refine T_block ?_
    refine T_nilrow 43 4 ?_
    refine T_as 0 _ (.row (.slice none 0 0) 43 4 0 (rcs (tks b 0))) rfl (by first | rfl | simp | (congr 1; simp)) ?_
    refine T_loop (T := Nat × Option Addr × Nat) (fun ⟨k, A1, c1⟩ => k ≤ q ∧ tke b k = 0) (fun ⟨k, A1, c1⟩ => [(0, (.slice A n c)), (1, (.int .i64 ((q : Nat) : Int))), (6, (.slice A1 k c1)), (7, (.int .i64 ((k : Nat) : Int)))]) (fun ⟨k, A1, c1⟩ => [.row (.slice A1 k c1) 43 4 k (rcs (tks b k)), .rd A 1 n c (b.map b8)]) (fun ⟨k, A1, c1⟩ => q - k) (0, none, 0) (⟨by omega, rfl⟩) (sc rfl (sc rfl (sc rfl (sc rfl sn)))) [0, 1] ⟨by decide, rfl⟩ ?_
    rintro ⟨k, A1, c1⟩ hp
    have hp : k ≤ q ∧ tke b k = 0 := hp
    have hkl := hp.1
    have hcl := fun hkq : k < q => chk_len hb hnq hkq
    refine T_re [(0, (.slice A n c)), (1, (.int .i64 ((q : Nat) : Int))), (6, (.slice A1 k c1)), (7, (.int .i64 ((k : Nat) : Int)))] (sc rfl (sc rfl (sc rfl (sc rfl sn)))) ?_
    refine T_he [0, 1] [.row (.slice A1 k c1) 43 4 k (rcs (tks b k)), .rd A 1 n c (b.map b8)] ⟨by decide, rfl⟩ ?_
    refine T_seq ?_
    refine Tsr hF rfl ?_
    refine lm rfl rfl rfl rfl rfl ?_
    refine lm rfl rfl rfl rfl rfl ?_
    refine lo rfl (pr_cmp (bo := .lss) (nc_lt (a := k) (b := q)) rfl rfl rfl rfl) rfl rfl ?_
    refine L_nil ?_
    refine T_cond (decide (k < q)) rfl (fun hc_6 => ?_) (fun hc_6 => ?_)
    ·
     have hc_6 := of_decide_eq_true hc_6
     refine T_skip ?_
     refine T_seq ?_
     refine T_block ?_
     refine Tsr hF rfl ?_
     refine lm rfl rfl rfl rfl rfl ?_
     refine lm rfl rfl rfl rfl rfl ?_
     refine lo rfl (pr_mul (nm_i64 (a := 32) (b := k) sd) rfl rfl rfl) rfl rfl ?_
     refine lm rfl rfl rfl rfl rfl ?_
     refine lo rfl (pr_mul (nm_i64 (a := 32) (b := k) sd) rfl rfl rfl) rfl rfl ?_
     refine lo rfl (pr_add (na_i64 (a := 32 * k) (b := 32) sd) rfl rfl rfl) rfl rfl ?_
     refine L_op rfl (op_slice_rd (l := 32 * k) (u := 32 * k + 32) 1 rfl sd sd Try.underlying23 kr rfl rfl ⟨_, rfl⟩ ⟨_, rfl⟩ rfl rfl (fun B7 => ?_))
     refine T_as 0 _ (.rd B7 1 ((32 * k + 32) - (32 * k)) (c - (32 * k)) ((List.take ((32 * k + 32) - (32 * k)) (List.drop (32 * k) b)).map b8)) rfl (by congr 1; simp [List.map_take, List.map_drop] <;> omega) ?_
     have hcl2 := chk_len hb hnq (k := k) (by omega)
     refine T_slot 38 _ (.slice B7 32 (c - (32 * k))) rfl (by congr 1; omega) ?_
     refine T_as 0 _ (.rd B7 1 32 (c - (32 * k)) ((chk b k).map b8)) rfl (by rw [show 32 * k + 32 - 32 * k = 32 from by omega]; rfl) ?_
     refine L_op rfl (op_cn (fun w hw => rrtake_f (chk b k) B7 32 (c - (32 * k)) w (hok_cons ((src_rd 0 rfl) w hw) (hok_nil w)) sd sd) (enters_of Try.func46 kr rfl) rfl rfl rfl rfl rfl (fun t8 q9 => ?_))
     refine lm rfl rfl rfl rfl rfl ?_
     refine lo rfl (pr_ext (vs := [(.agg [(.bool ((rtk (chk b k)).d)), (.int .i64 (i64 (rtk (chk b k)).k)), (.int .i64 (i64 (rtk (chk b k)).v)), (.int .i64 (i64 (rtk (chk b k)).s))].toArray), (.int .i64 (((rte (chk b k)) : Nat) : Int))]) rfl rfl rfl) rfl rfl ?_
     refine lo rfl (pr_ext (vs := [(.agg [(.bool ((rtk (chk b k)).d)), (.int .i64 (i64 (rtk (chk b k)).k)), (.int .i64 (i64 (rtk (chk b k)).v)), (.int .i64 (i64 (rtk (chk b k)).s))].toArray), (.int .i64 (((rte (chk b k)) : Nat) : Int))]) rfl rfl rfl) rfl rfl ?_
     refine L_op rfl (op_alloc (z := .agg [(.bool false), (.int .i64 ((0 : Nat) : Int)), (.int .i64 ((0 : Nat) : Int)), (.int .i64 ((0 : Nat) : Int))].toArray) (zs := [(.bool false), (.int .i64 ((0 : Nat) : Int)), (.int .i64 ((0 : Nat) : Int)), (.int .i64 ((0 : Nat) : Int))]) kr rfl rfl rfl rfl (fun g10 => ?_))
     refine L_op rfl (op_sto (n := 4) (vs := [(.bool ((rtk (chk b k)).d)), (.int .i64 (i64 (rtk (chk b k)).k)), (.int .i64 (i64 (rtk (chk b k)).v)), (.int .i64 (i64 (rtk (chk b k)).s))]) 0 rfl rfl kr (by simp [Value.oneCell']) kr kr rfl rfl rfl rfl ?_)
     refine la rfl rfl rfl rfl rfl ?_
     refine L_nil ?_
     refine T_seq ?_
     refine Tsr hF rfl ?_
     refine lm rfl rfl rfl rfl rfl ?_
     refine lo rfl (pr_cmp (bo := .neq) (nc_ne (a := (rte (chk b k))) (b := 0)) rfl rfl rfl rfl) rfl rfl ?_
     refine L_nil ?_
     refine T_cond ((rte (chk b k)) != 0) rfl (fun hc_11 => ?_) (fun hc_11 => ?_)
     ·
      have hc_11 : ¬ (rte (chk b k)) = 0 := by simpa using hc_11
      refine Tsr hF rfl ?_
      refine lm rfl rfl rfl rfl rfl ?_
      refine la rfl rfl rfl rfl rfl ?_
      refine la rfl rfl rfl rfl rfl ?_
      refine L_nil ?_
      refine T_ret ?_
      refine T_slot 4 (.slice none 0 0) (.slice none (btn b z) 0) rfl (by first | rfl | (rw [btn_no (by rw [bte_arg (mayb_f (by assumption))]; decide), btk_no (by rw [bte_arg (mayb_f (by assumption))]; decide)]; rfl) | rw [btn_no (by rw [bte_arg (mayb_f (by assumption))]; decide)] | rw [bte_arg (mayb_f (by assumption))] | (rw [btn_no (by rw [bte_short hz1 hz2 (by omega)]; decide), btk_no (by rw [bte_short hz1 hz2 (by omega)]; decide)]; rfl) | rw [btn_no (by rw [bte_short hz1 hz2 (by omega)]; decide)] | rw [bte_short hz1 hz2 (by omega)] | (rw [btn_no (by rw [bte_long hz1 hz2 (by omega)]; decide), btk_no (by rw [bte_long hz1 hz2 (by omega)]; decide)]; rfl) | rw [btn_no (by rw [bte_long hz1 hz2 (by omega)]; decide)] | rw [bte_long hz1 hz2 (by omega)] | (rw [btn_no (by rw [bte_err hz1 hz2 hzq (by omega) (by omega : k < q) hp.2 (by assumption)]; assumption), btk_no (by rw [bte_err hz1 hz2 hzq (by omega) (by omega : k < q) hp.2 (by assumption)]; assumption)]; rfl) | rw [btn_no (by rw [bte_err hz1 hz2 hzq (by omega) (by omega : k < q) hp.2 (by assumption)]; assumption)] | rw [bte_err hz1 hz2 hzq (by omega) (by omega : k < q) hp.2 (by assumption)] | rw [btn_ok ((bte_ok hz1 hz2 hzq (by omega)).trans htz) hzq, btk_ok ((bte_ok hz1 hz2 hzq (by omega)).trans htz) hzq] | rw [btn_ok ((bte_ok hz1 hz2 hzq (by omega)).trans htz) hzq] | rw [(bte_ok hz1 hz2 hzq (by omega)).trans htz]) ?_
      refine T_slot 5 (.int .i64 (((rte (chk b k)) : Nat) : Int)) (.int .i64 (((bte b z) : Nat) : Int)) rfl (by first | rfl | (rw [btn_no (by rw [bte_arg (mayb_f (by assumption))]; decide), btk_no (by rw [bte_arg (mayb_f (by assumption))]; decide)]; rfl) | rw [btn_no (by rw [bte_arg (mayb_f (by assumption))]; decide)] | rw [bte_arg (mayb_f (by assumption))] | (rw [btn_no (by rw [bte_short hz1 hz2 (by omega)]; decide), btk_no (by rw [bte_short hz1 hz2 (by omega)]; decide)]; rfl) | rw [btn_no (by rw [bte_short hz1 hz2 (by omega)]; decide)] | rw [bte_short hz1 hz2 (by omega)] | (rw [btn_no (by rw [bte_long hz1 hz2 (by omega)]; decide), btk_no (by rw [bte_long hz1 hz2 (by omega)]; decide)]; rfl) | rw [btn_no (by rw [bte_long hz1 hz2 (by omega)]; decide)] | rw [bte_long hz1 hz2 (by omega)] | (rw [btn_no (by rw [bte_err hz1 hz2 hzq (by omega) (by omega : k < q) hp.2 (by assumption)]; assumption), btk_no (by rw [bte_err hz1 hz2 hzq (by omega) (by omega : k < q) hp.2 (by assumption)]; assumption)]; rfl) | rw [btn_no (by rw [bte_err hz1 hz2 hzq (by omega) (by omega : k < q) hp.2 (by assumption)]; assumption)] | rw [bte_err hz1 hz2 hzq (by omega) (by omega : k < q) hp.2 (by assumption)] | rw [btn_ok ((bte_ok hz1 hz2 hzq (by omega)).trans htz) hzq, btk_ok ((bte_ok hz1 hz2 hzq (by omega)).trans htz) hzq] | rw [btn_ok ((bte_ok hz1 hz2 hzq (by omega)).trans htz) hzq] | rw [(bte_ok hz1 hz2 hzq (by omega)).trans htz]) ?_
      refine T_nilrow 43 4 ?_
      refine T_as 0 _ (.row (.slice none (btn b z) 0) 43 4 (btn b z) (rcs (btk b z))) rfl (by first | rfl | (rw [btn_no (by rw [bte_arg (mayb_f (by assumption))]; decide), btk_no (by rw [bte_arg (mayb_f (by assumption))]; decide)]; rfl) | rw [btn_no (by rw [bte_arg (mayb_f (by assumption))]; decide)] | rw [bte_arg (mayb_f (by assumption))] | (rw [btn_no (by rw [bte_short hz1 hz2 (by omega)]; decide), btk_no (by rw [bte_short hz1 hz2 (by omega)]; decide)]; rfl) | rw [btn_no (by rw [bte_short hz1 hz2 (by omega)]; decide)] | rw [bte_short hz1 hz2 (by omega)] | (rw [btn_no (by rw [bte_long hz1 hz2 (by omega)]; decide), btk_no (by rw [bte_long hz1 hz2 (by omega)]; decide)]; rfl) | rw [btn_no (by rw [bte_long hz1 hz2 (by omega)]; decide)] | rw [bte_long hz1 hz2 (by omega)] | (rw [btn_no (by rw [bte_err hz1 hz2 hzq (by omega) (by omega : k < q) hp.2 (by assumption)]; assumption), btk_no (by rw [bte_err hz1 hz2 hzq (by omega) (by omega : k < q) hp.2 (by assumption)]; assumption)]; rfl) | rw [btn_no (by rw [bte_err hz1 hz2 hzq (by omega) (by omega : k < q) hp.2 (by assumption)]; assumption)] | rw [bte_err hz1 hz2 hzq (by omega) (by omega : k < q) hp.2 (by assumption)] | rw [btn_ok ((bte_ok hz1 hz2 hzq (by omega)).trans htz) hzq, btk_ok ((bte_ok hz1 hz2 hzq (by omega)).trans htz) hzq] | rw [btn_ok ((bte_ok hz1 hz2 hzq (by omega)).trans htz) hzq] | rw [(bte_ok hz1 hz2 hzq (by omega)).trans htz]) ?_
      exact T_fin (none, 0) (by first | trivial | omega | (simp; done)) (res2 rfl rfl rfl) [0] ⟨by decide, rfl⟩ rfl
     ·
      have hc_11 : (rte (chk b k)) = 0 := by simpa using hc_11
      refine T_skip ?_
      refine T_reg hF rfl ?_
      refine lm rfl rfl rfl rfl rfl ?_
      refine lq rfl (ld_agg (ds := [(.bool ((rtk (chk b k)).d)), (.int .i64 (i64 (rtk (chk b k)).k)), (.int .i64 (i64 (rtk (chk b k)).v)), (.int .i64 (i64 (rtk (chk b k)).s))]) 0 rfl agg_all Try.underlying43 rfl kr rfl rfl) rfl rfl ?_
      refine L_op rfl (op_bslice (e := 43) (zs := [(.bool ((rtk (chk b k)).d)), (.int .i64 (i64 (rtk (chk b k)).k)), (.int .i64 (i64 (rtk (chk b k)).v)), (.int .i64 (i64 (rtk (chk b k)).s))]) (qs := [(0, (.agg [(.bool ((rtk (chk b k)).d)), (.int .i64 (i64 (rtk (chk b k)).k)), (.int .i64 (i64 (rtk (chk b k)).v)), (.int .i64 (i64 (rtk (chk b k)).s))].toArray))]) (fun _ => by kernel_rfl) rfl rfl rfl rfl (fun g12 => ?_))
      refine L_op rfl (op_append (z := .agg [(.bool false), (.int .i64 ((0 : Nat) : Int)), (.int .i64 ((0 : Nat) : Int)), (.int .i64 ((0 : Nat) : Int))].toArray) (size := 4) (bytes := 32) 3 rfl Try.underlying27 kr kr (by decide) (src_blk (z := 4) (ds := [(.bool ((rtk (chk b k)).d)), (.int .i64 (i64 (rtk (chk b k)).k)), (.int .i64 (i64 (rtk (chk b k)).v)), (.int .i64 (i64 (rtk (chk b k)).s))]) 0 rfl rfl rfl sd sd) (by simp [Value.oneCell']) sd sd rfl rfl rfl rfl rfl (fun A13 C14 => ?_))
      refine T_as 0 _ (.row (.slice A13 (k + 1) C14) 43 4 (k + 1) (rcs ((tks b k) ++ [(Rc.mk ((rtk (chk b k)).d) ((rtk (chk b k)).k) ((rtk (chk b k)).v) ((rtk (chk b k)).s))]))) rfl (by first | rfl | (congr 1; simp; done) | (simp only [List.map_append]; rfl) | (rw [List.map_append]; rfl) | (rw [rcs_app]; rfl)) ?_
      refine la rfl rfl rfl rfl rfl ?_
      refine L_nil ?_
      refine T_reg hF rfl ?_
      refine lm rfl rfl rfl rfl rfl ?_
      refine lo rfl (pr_add (na_i64 (a := k) (b := 1) sd) rfl rfl rfl) rfl rfl ?_
      refine la rfl rfl rfl rfl rfl ?_
      refine L_nil ?_
      refine T_as 0 _ (.row (.slice A13 (k + 1) C14) 43 4 (k + 1) (rcs (tks b (k + 1)))) rfl (by rfl) ?_
      exact T_again (k + 1, A13, C14) (⟨by omega, tke_on hp.2 (by assumption)⟩) (by dsimp only; omega) (sc rfl (sc rfl (sc rfl (sc rfl sn)))) [0, 4] ⟨by decide, rfl⟩
    ·
     have hc_6 := of_decide_eq_false hc_6
     refine T_exit rfl ?_
     obtain rfl : q = k := by omega
     have htz : tke b q = 0 := hp.2
     refine Tsr hF rfl ?_
     refine lm rfl rfl rfl rfl rfl ?_
     refine la rfl rfl rfl rfl rfl ?_
     refine la rfl rfl rfl rfl rfl ?_
     refine L_nil ?_
     refine T_ret ?_
     refine T_slot 4 (.slice A1 q c1) (.slice A1 (btn b z) c1) rfl (by first | rfl | (rw [btn_no (by rw [bte_arg (mayb_f (by assumption))]; decide), btk_no (by rw [bte_arg (mayb_f (by assumption))]; decide)]; rfl) | rw [btn_no (by rw [bte_arg (mayb_f (by assumption))]; decide)] | rw [bte_arg (mayb_f (by assumption))] | (rw [btn_no (by rw [bte_short hz1 hz2 (by omega)]; decide), btk_no (by rw [bte_short hz1 hz2 (by omega)]; decide)]; rfl) | rw [btn_no (by rw [bte_short hz1 hz2 (by omega)]; decide)] | rw [bte_short hz1 hz2 (by omega)] | (rw [btn_no (by rw [bte_long hz1 hz2 (by omega)]; decide), btk_no (by rw [bte_long hz1 hz2 (by omega)]; decide)]; rfl) | rw [btn_no (by rw [bte_long hz1 hz2 (by omega)]; decide)] | rw [bte_long hz1 hz2 (by omega)] | (rw [btn_no (by rw [bte_err hz1 hz2 hzq (by omega) (by omega : k < q) hp.2 (by assumption)]; assumption), btk_no (by rw [bte_err hz1 hz2 hzq (by omega) (by omega : k < q) hp.2 (by assumption)]; assumption)]; rfl) | rw [btn_no (by rw [bte_err hz1 hz2 hzq (by omega) (by omega : k < q) hp.2 (by assumption)]; assumption)] | rw [bte_err hz1 hz2 hzq (by omega) (by omega : k < q) hp.2 (by assumption)] | rw [btn_ok ((bte_ok hz1 hz2 hzq (by omega)).trans htz) hzq, btk_ok ((bte_ok hz1 hz2 hzq (by omega)).trans htz) hzq] | rw [btn_ok ((bte_ok hz1 hz2 hzq (by omega)).trans htz) hzq] | rw [(bte_ok hz1 hz2 hzq (by omega)).trans htz]) ?_
     refine T_slot 5 (.int .i64 ((0 : Nat) : Int)) (.int .i64 (((bte b z) : Nat) : Int)) rfl (by first | rfl | (rw [btn_no (by rw [bte_arg (mayb_f (by assumption))]; decide), btk_no (by rw [bte_arg (mayb_f (by assumption))]; decide)]; rfl) | rw [btn_no (by rw [bte_arg (mayb_f (by assumption))]; decide)] | rw [bte_arg (mayb_f (by assumption))] | (rw [btn_no (by rw [bte_short hz1 hz2 (by omega)]; decide), btk_no (by rw [bte_short hz1 hz2 (by omega)]; decide)]; rfl) | rw [btn_no (by rw [bte_short hz1 hz2 (by omega)]; decide)] | rw [bte_short hz1 hz2 (by omega)] | (rw [btn_no (by rw [bte_long hz1 hz2 (by omega)]; decide), btk_no (by rw [bte_long hz1 hz2 (by omega)]; decide)]; rfl) | rw [btn_no (by rw [bte_long hz1 hz2 (by omega)]; decide)] | rw [bte_long hz1 hz2 (by omega)] | (rw [btn_no (by rw [bte_err hz1 hz2 hzq (by omega) (by omega : k < q) hp.2 (by assumption)]; assumption), btk_no (by rw [bte_err hz1 hz2 hzq (by omega) (by omega : k < q) hp.2 (by assumption)]; assumption)]; rfl) | rw [btn_no (by rw [bte_err hz1 hz2 hzq (by omega) (by omega : k < q) hp.2 (by assumption)]; assumption)] | rw [bte_err hz1 hz2 hzq (by omega) (by omega : k < q) hp.2 (by assumption)] | rw [btn_ok ((bte_ok hz1 hz2 hzq (by omega)).trans htz) hzq, btk_ok ((bte_ok hz1 hz2 hzq (by omega)).trans htz) hzq] | rw [btn_ok ((bte_ok hz1 hz2 hzq (by omega)).trans htz) hzq] | rw [(bte_ok hz1 hz2 hzq (by omega)).trans htz]) ?_
     refine T_as 0 _ (.row (.slice A1 (btn b z) c1) 43 4 (btn b z) (rcs (btk b z))) rfl (by first | rfl | (rw [btn_no (by rw [bte_arg (mayb_f (by assumption))]; decide), btk_no (by rw [bte_arg (mayb_f (by assumption))]; decide)]; rfl) | rw [btn_no (by rw [bte_arg (mayb_f (by assumption))]; decide)] | rw [bte_arg (mayb_f (by assumption))] | (rw [btn_no (by rw [bte_short hz1 hz2 (by omega)]; decide), btk_no (by rw [bte_short hz1 hz2 (by omega)]; decide)]; rfl) | rw [btn_no (by rw [bte_short hz1 hz2 (by omega)]; decide)] | rw [bte_short hz1 hz2 (by omega)] | (rw [btn_no (by rw [bte_long hz1 hz2 (by omega)]; decide), btk_no (by rw [bte_long hz1 hz2 (by omega)]; decide)]; rfl) | rw [btn_no (by rw [bte_long hz1 hz2 (by omega)]; decide)] | rw [bte_long hz1 hz2 (by omega)] | (rw [btn_no (by rw [bte_err hz1 hz2 hzq (by omega) (by omega : k < q) hp.2 (by assumption)]; assumption), btk_no (by rw [bte_err hz1 hz2 hzq (by omega) (by omega : k < q) hp.2 (by assumption)]; assumption)]; rfl) | rw [btn_no (by rw [bte_err hz1 hz2 hzq (by omega) (by omega : k < q) hp.2 (by assumption)]; assumption)] | rw [bte_err hz1 hz2 hzq (by omega) (by omega : k < q) hp.2 (by assumption)] | rw [btn_ok ((bte_ok hz1 hz2 hzq (by omega)).trans htz) hzq, btk_ok ((bte_ok hz1 hz2 hzq (by omega)).trans htz) hzq] | rw [btn_ok ((bte_ok hz1 hz2 hzq (by omega)).trans htz) hzq] | rw [(bte_ok hz1 hz2 hzq (by omega)).trans htz]) ?_
     exact T_fin (A1, c1) (by first | trivial | omega | (simp; done)) (res2 rfl rfl rfl) [0] ⟨by decide, rfl⟩ rfl
theorem rat_in {xs : List Rc} {n k : Nat} (ys : List Rc) (hx : xs.length = n) (h : k < n) : rat (xs ++ ys) k = rat xs k := by subst hx; unfold rat; simp [List.getD_eq_getElem?_getD, List.getElem?_append_left h]
theorem rat_out {xs : List Rc} {n k q : Nat} (hx : xs.length = n) (h : ¬ k < n) (hq : k < q) : rat (xs ++ List.replicate (q - n) rdead) k = rdead := by
  subst hx; unfold rat
  rw [List.getD_eq_getElem?_getD, List.getElem?_append_right (by omega), List.getElem?_replicate, if_pos (by omega)]; rfl
theorem pk_in {xs : List Rc} {n k q : Nat} (hx : xs.length = n) (h : k < n) (hq : n ≤ q) : pkl ((xs ++ List.replicate (q - n) rdead).take (k + 1)) = pkl ((xs ++ List.replicate (q - n) rdead).take k) ++ rpk (Rc.mk (rat xs k).d (rat xs k).k (rat xs k).v (rat xs k).s) := by
  rw [pkl_take _ k (by simp; omega), rat_in _ hx h]
theorem pk_out {xs : List Rc} {n k q : Nat} (hx : xs.length = n) (h : ¬ k < n) (hq : k < q) (hn : n ≤ q) : pkl ((xs ++ List.replicate (q - n) rdead).take (k + 1)) = pkl ((xs ++ List.replicate (q - n) rdead).take k) ++ rpk (Rc.mk true 0#64 0#64 0#64) := by
  rw [pkl_take _ k (by simp; omega), rat_out hx h hq]; rfl

set_option maxHeartbeats 4000000 in
theorem rbpack_f (xs : List Rc) (z : Int) (A : Option Addr) (n : Nat) (c : Nat) (w : World) (hO : HOK [.rd A 4 n c (rcs xs)] w) (hx : xs.length = n) (hn : n ≤ 1000) : Calls Try.prog 20 [(.slice A n c), (.int .i64 z)].toArray w (Ret (T := Option Addr × Nat) [] w (fun ⟨B, e⟩ => True) (fun ⟨B, e⟩ => (.tuple [(.slice B (bpl n z) e), (.int .i64 (((bpe n z) : Nat) : Int))].toArray)) (fun ⟨B, e⟩ => [.row (.slice B (bpl n z) e) 5 1 (bpl n z) ((bpb xs z).map b8)])) := by
 have hrd := rpk_len (Rc.mk true 0#64 0#64 0#64)
 have hF : Wid Fence.wide := wid_wide
 refine enter (c := _) Try.func20 rfl [] _ [.rd A 4 n c (rcs xs)] (by rw [Try.ntmps20]; rfl) (own_rds hO rfl) ?_
 rw [Try.ntmps20]
 refine T_re [(0, (.slice A n c)), (1, (.int .i64 z))] (sc rfl (sc rfl sn)) ?_
 refine T_he [0] [.rd A 4 n c (rcs xs)] ⟨by decide, rfl⟩ ?_
 refine Tsr hF rfl ?_
 refine la rfl rfl rfl rfl rfl ?_
 refine la rfl rfl rfl rfl rfl ?_
 refine L_nil ?_
 refine T_seq ?_
 refine Tsr hF rfl ?_
 refine lm rfl rfl rfl rfl rfl ?_
 refine L_op rfl (op_cn (fun w hw => rmay_f z w (hok_nil w) ) (enters_of Try.func41 kr rfl) rfl rfl rfl rfl rfl (fun t1 q2 => ?_))
 refine lo rfl (pr_un rfl rfl rfl) rfl rfl ?_
 refine L_nil ?_
 refine T_cond (!(mayb z)) rfl (fun hc_3 => ?_) (fun hc_3 => ?_)
 ·
  refine Tsr hF rfl ?_
  refine la rfl rfl rfl rfl rfl ?_
  refine la rfl rfl rfl rfl rfl ?_
  refine L_nil ?_
  refine T_ret ?_
  refine T_slot 4 (.slice none 0 0) (.slice none (bpl n z) 0) rfl (by first | rfl | (rw [bpl_arg (mayb_f (by assumption)), bpb_arg (mayb_f (by assumption))]; rfl) | (rw [bpl_lim hz1 hz2 (by assumption), bpb_lim hz1 hz2 (by omega)]; rfl) | (rw [bpl_ok hq hz1 hz2 (by assumption), bpb_ok hx hq hz1 hz2 (by assumption), List.take_of_length_le (by simp; omega), show n + (q - n) = q from by omega]) | (rw [bpe_arg (mayb_f (by assumption))]) | (rw [bpl_arg (mayb_f (by assumption))]) | (rw [bpe_lim hz1 hz2 (by assumption)]) | (rw [bpl_lim hz1 hz2 (by assumption)]) | (rw [bpe_ok hz1 hz2 (by assumption)]) | (rw [bpl_ok hq hz1 hz2 (by assumption), show n + (q - n) = q from by omega])) ?_
  refine T_slot 5 (.int .i64 ((1 : Nat) : Int)) (.int .i64 (((bpe n z) : Nat) : Int)) rfl (by first | rfl | (rw [bpl_arg (mayb_f (by assumption)), bpb_arg (mayb_f (by assumption))]; rfl) | (rw [bpl_lim hz1 hz2 (by assumption), bpb_lim hz1 hz2 (by omega)]; rfl) | (rw [bpl_ok hq hz1 hz2 (by assumption), bpb_ok hx hq hz1 hz2 (by assumption), List.take_of_length_le (by simp; omega), show n + (q - n) = q from by omega]) | (rw [bpe_arg (mayb_f (by assumption))]) | (rw [bpl_arg (mayb_f (by assumption))]) | (rw [bpe_lim hz1 hz2 (by assumption)]) | (rw [bpl_lim hz1 hz2 (by assumption)]) | (rw [bpe_ok hz1 hz2 (by assumption)]) | (rw [bpl_ok hq hz1 hz2 (by assumption), show n + (q - n) = q from by omega])) ?_
  refine T_nilrow 5 1 ?_
  refine T_as 0 _ (.row (.slice none (bpl n z) 0) 5 1 (bpl n z) ((bpb xs z).map b8)) rfl (by first | rfl | (rw [bpl_arg (mayb_f (by assumption)), bpb_arg (mayb_f (by assumption))]; rfl) | (rw [bpl_lim hz1 hz2 (by assumption), bpb_lim hz1 hz2 (by omega)]; rfl) | (rw [bpl_ok hq hz1 hz2 (by assumption), bpb_ok hx hq hz1 hz2 (by assumption), List.take_of_length_le (by simp; omega), show n + (q - n) = q from by omega]) | (rw [bpe_arg (mayb_f (by assumption))]) | (rw [bpl_arg (mayb_f (by assumption))]) | (rw [bpe_lim hz1 hz2 (by assumption)]) | (rw [bpl_lim hz1 hz2 (by assumption)]) | (rw [bpe_ok hz1 hz2 (by assumption)]) | (rw [bpl_ok hq hz1 hz2 (by assumption), show n + (q - n) = q from by omega])) ?_
  exact T_fin (none, 0) (by first | trivial | omega | (simp; done)) (res2 rfl rfl rfl) [0] ⟨by decide, rfl⟩ rfl
 ·
  refine T_skip ?_
  refine T_seq ?_
  refine Tsr hF rfl ?_
  refine lm rfl rfl rfl rfl rfl ?_
  obtain ⟨hz1, hz2⟩ := mayb_t (z := z) (by assumption)
  refine lo rfl (pr_len_sl Try.underlying27 rfl rfl) rfl rfl ?_
  refine lm rfl rfl rfl rfl rfl ?_
  refine lo rfl (pr_cmp (bo := .gtr) (k := .i64) (a := ((n : Nat) : Int)) (b := z) (c := decide (z < ((n : Nat) : Int))) rfl rfl rfl rfl rfl) rfl rfl ?_
  refine L_nil ?_
  refine T_cond (decide (z < ((n : Nat) : Int))) rfl (fun hc_4 => ?_) (fun hc_4 => ?_)
  ·
   have hc_4 := of_decide_eq_true hc_4
   refine Tsr hF rfl ?_
   refine la rfl rfl rfl rfl rfl ?_
   refine la rfl rfl rfl rfl rfl ?_
   refine L_nil ?_
   refine T_ret ?_
   refine T_slot 4 (.slice none 0 0) (.slice none (bpl n z) 0) rfl (by first | rfl | (rw [bpl_arg (mayb_f (by assumption)), bpb_arg (mayb_f (by assumption))]; rfl) | (rw [bpl_lim hz1 hz2 (by assumption), bpb_lim hz1 hz2 (by omega)]; rfl) | (rw [bpl_ok hq hz1 hz2 (by assumption), bpb_ok hx hq hz1 hz2 (by assumption), List.take_of_length_le (by simp; omega), show n + (q - n) = q from by omega]) | (rw [bpe_arg (mayb_f (by assumption))]) | (rw [bpl_arg (mayb_f (by assumption))]) | (rw [bpe_lim hz1 hz2 (by assumption)]) | (rw [bpl_lim hz1 hz2 (by assumption)]) | (rw [bpe_ok hz1 hz2 (by assumption)]) | (rw [bpl_ok hq hz1 hz2 (by assumption), show n + (q - n) = q from by omega])) ?_
   refine T_slot 5 (.int .i64 ((5 : Nat) : Int)) (.int .i64 (((bpe n z) : Nat) : Int)) rfl (by first | rfl | (rw [bpl_arg (mayb_f (by assumption)), bpb_arg (mayb_f (by assumption))]; rfl) | (rw [bpl_lim hz1 hz2 (by assumption), bpb_lim hz1 hz2 (by omega)]; rfl) | (rw [bpl_ok hq hz1 hz2 (by assumption), bpb_ok hx hq hz1 hz2 (by assumption), List.take_of_length_le (by simp; omega), show n + (q - n) = q from by omega]) | (rw [bpe_arg (mayb_f (by assumption))]) | (rw [bpl_arg (mayb_f (by assumption))]) | (rw [bpe_lim hz1 hz2 (by assumption)]) | (rw [bpl_lim hz1 hz2 (by assumption)]) | (rw [bpe_ok hz1 hz2 (by assumption)]) | (rw [bpl_ok hq hz1 hz2 (by assumption), show n + (q - n) = q from by omega])) ?_
   refine T_nilrow 5 1 ?_
   refine T_as 0 _ (.row (.slice none (bpl n z) 0) 5 1 (bpl n z) ((bpb xs z).map b8)) rfl (by first | rfl | (rw [bpl_arg (mayb_f (by assumption)), bpb_arg (mayb_f (by assumption))]; rfl) | (rw [bpl_lim hz1 hz2 (by assumption), bpb_lim hz1 hz2 (by omega)]; rfl) | (rw [bpl_ok hq hz1 hz2 (by assumption), bpb_ok hx hq hz1 hz2 (by assumption), List.take_of_length_le (by simp; omega), show n + (q - n) = q from by omega]) | (rw [bpe_arg (mayb_f (by assumption))]) | (rw [bpl_arg (mayb_f (by assumption))]) | (rw [bpe_lim hz1 hz2 (by assumption)]) | (rw [bpl_lim hz1 hz2 (by assumption)]) | (rw [bpe_ok hz1 hz2 (by assumption)]) | (rw [bpl_ok hq hz1 hz2 (by assumption), show n + (q - n) = q from by omega])) ?_
   exact T_fin (none, 0) (by first | trivial | omega | (simp; done)) (res2 rfl rfl rfl) [0] ⟨by decide, rfl⟩ rfl
  ·
   have hc_4 := of_decide_eq_false hc_4
   refine T_skip ?_
   refine Tsr hF rfl ?_
   refine la rfl rfl rfl rfl rfl ?_
   obtain ⟨q, hq⟩ : ∃ q : Nat, z = (q : Int) := ⟨z.toNat, by omega⟩
   have hnq : n ≤ q := by omega
   refine T_slot 1 (.int .i64 z) (.int .i64 ((q : Nat) : Int)) rfl (by rw [hq]) ?_
   refine L_nil ?_
   refine T_seq ?_
   refine Tsr hF rfl ?_
   refine la rfl rfl rfl rfl rfl ?_
   refine L_nil ?_
   refine T_block ?_
   refine T_slot 6 (.slice none 0 0) (.slice none (32 * 0) 0) rfl (by first | rfl | (congr 2; omega) | (simp; omega)) ?_
   refine T_nilrow 5 1 ?_
   refine T_as 0 _ (.row (.slice none (32 * 0) 0) 5 1 (32 * 0) ((pkl ((xs ++ List.replicate (q - n) rdead).take 0)).map b8)) rfl (by first | rfl | simp | (congr 1; simp)) ?_
   refine T_loop (T := Nat × Option Addr × Nat) (fun ⟨k, A1, c1⟩ => k ≤ q) (fun ⟨k, A1, c1⟩ => [(0, (.slice A n c)), (1, (.int .i64 ((q : Nat) : Int))), (6, (.slice A1 (32 * k) c1)), (7, (.int .i64 ((k : Nat) : Int)))]) (fun ⟨k, A1, c1⟩ => [.row (.slice A1 (32 * k) c1) 5 1 (32 * k) ((pkl ((xs ++ List.replicate (q - n) rdead).take k)).map b8), .rd A 4 n c (rcs xs)]) (fun ⟨k, A1, c1⟩ => q - k) (0, none, 0) (by first | trivial | ((try dsimp only); first | omega | (refine ⟨?_, ?_⟩ <;> omega) | (refine ⟨?_, ?_, ?_⟩ <;> omega) | (simp; done) | (simp; omega))) (sc rfl (sc rfl (sc rfl (sc rfl sn)))) [0, 1] ⟨by decide, rfl⟩ ?_
   rintro ⟨k, A1, c1⟩ hp
   have hp : k ≤ q := hp
   have hrk : (rpk (Rc.mk (rat xs k).d (rat xs k).k (rat xs k).v (rat xs k).s)).length = 32 := rpk_len _
   refine T_re [(0, (.slice A n c)), (1, (.int .i64 ((q : Nat) : Int))), (6, (.slice A1 (32 * k) c1)), (7, (.int .i64 ((k : Nat) : Int)))] (sc rfl (sc rfl (sc rfl (sc rfl sn)))) ?_
   refine T_he [0, 1] [.row (.slice A1 (32 * k) c1) 5 1 (32 * k) ((pkl ((xs ++ List.replicate (q - n) rdead).take k)).map b8), .rd A 4 n c (rcs xs)] ⟨by decide, rfl⟩ ?_
   refine T_seq ?_
   refine Tsr hF rfl ?_
   refine lm rfl rfl rfl rfl rfl ?_
   refine lm rfl rfl rfl rfl rfl ?_
   refine lo rfl (pr_cmp (bo := .lss) (nc_lt (a := k) (b := q)) rfl rfl rfl rfl) rfl rfl ?_
   refine L_nil ?_
   refine T_cond (decide (k < q)) rfl (fun hc_5 => ?_) (fun hc_5 => ?_)
   ·
    have hc_5 := of_decide_eq_true hc_5
    refine T_skip ?_
    refine T_seq ?_
    refine T_block ?_
    refine Tsr hF rfl ?_
    refine L_op rfl (op_cn (fun w hw => rdead_f  w (hok_nil w) ) (enters_of Try.func42 kr rfl) rfl rfl rfl rfl rfl (fun t6 q7 => ?_))
    refine L_op rfl (op_alloc (z := .agg [(.bool false), (.int .i64 ((0 : Nat) : Int)), (.int .i64 ((0 : Nat) : Int)), (.int .i64 ((0 : Nat) : Int))].toArray) (zs := [(.bool false), (.int .i64 ((0 : Nat) : Int)), (.int .i64 ((0 : Nat) : Int)), (.int .i64 ((0 : Nat) : Int))]) kr rfl rfl rfl rfl (fun g8 => ?_))
    refine L_op rfl (op_sto (n := 4) (vs := [(.bool true), (.int .i64 ((0 : Nat) : Int)), (.int .i64 ((0 : Nat) : Int)), (.int .i64 ((0 : Nat) : Int))]) 0 rfl rfl kr (by simp [Value.oneCell']) kr kr rfl rfl rfl rfl ?_)
    refine L_nil ?_
    refine T_seq ?_
    refine Tsr hF rfl ?_
    refine lm rfl rfl rfl rfl rfl ?_
    refine lm rfl rfl rfl rfl rfl ?_
    refine lo rfl (pr_len_sl Try.underlying27 rfl rfl) rfl rfl ?_
    refine lo rfl (pr_cmp (bo := .lss) (nc_lt (a := k) (b := n)) rfl rfl rfl rfl) rfl rfl ?_
    refine L_nil ?_
    refine T_cond (decide (k < n)) rfl (fun hc_9 => ?_) (fun hc_9 => ?_)
    ·
     have hc_9 := of_decide_eq_true hc_9
     refine T_reg hF rfl ?_
     refine lm rfl rfl rfl rfl rfl ?_
     refine lm rfl rfl rfl rfl rfl ?_
     refine lo rfl (pr_ixs (j := k) (src_none (src_rd 2 rfl)) sd Try.underlying27 (z := 4) kr rfl rfl rfl) rfl rfl ?_
     refine lq rfl (ld_rc (j := k) (src_rd 2 rfl) sd Try.underlying43 rfl kr rfl rfl) rfl rfl ?_
     refine L_op rfl (op_sto (n := 4) (vs := [(.bool ((rat xs k).d)), (.int .i64 (i64 (rat xs k).k)), (.int .i64 (i64 (rat xs k).v)), (.int .i64 (i64 (rat xs k).s))]) 0 rfl rfl kr (by simp [Value.oneCell']) kr kr rfl rfl rfl rfl ?_)
     refine L_nil ?_
     refine Tsr hF rfl ?_
     refine lq rfl (ld_agg (ds := [(.bool ((rat xs k).d)), (.int .i64 (i64 (rat xs k).k)), (.int .i64 (i64 (rat xs k).v)), (.int .i64 (i64 (rat xs k).s))]) 0 rfl agg_all Try.underlying43 rfl kr rfl rfl) rfl rfl ?_
     refine L_op rfl (op_cn (fun w hw => rrpack_f ((rat xs k).d) ((rat xs k).k) ((rat xs k).v) ((rat xs k).s) w (hok_nil w) ) (enters_of Try.func43 kr rfl) rfl rfl rfl rfl rfl (fun t10 q11 => ?_))
     refine L_op rfl (op_alloc (z := .agg ((List.replicate 32 0#8).map b8).toArray) (zs := ((List.replicate 32 0#8).map b8)) kr rfl rfl rfl rfl (fun g12 => ?_))
     refine L_op rfl (op_sto (n := 32) (vs := ((rpk (Rc.mk ((rat xs k).d) ((rat xs k).k) ((rat xs k).v) ((rat xs k).s))).map b8)) 0 rfl rfl kr (all8_one _) kr sd rfl rfl rfl rfl ?_)
     refine L_nil ?_
     refine T_reg hF rfl ?_
     refine lm rfl rfl rfl rfl rfl ?_
     refine lo rfl (pr_sla (l := 0) (u := 32) (m := 0) sd sd sd rfl Try.underlying50 (z := 1) kr rfl rfl rfl rfl) rfl rfl ?_
     refine L_op rfl (op_append (z := (b8 (0#8))) (size := 1) (bytes := 1) 2 rfl Try.underlying23 kr kr (by decide) (src_full (z := 1) 0 rfl sd sd sd) (all8_one _) sd sd rfl rfl rfl rfl rfl (fun A13 C14 => ?_))
     refine T_as 0 _ (.row (.slice A13 (32 * k + 32) C14) 5 1 (32 * k + 32) (((pkl ((xs ++ List.replicate (q - n) rdead).take k)) ++ (rpk (Rc.mk ((rat xs k).d) ((rat xs k).k) ((rat xs k).v) ((rat xs k).s)))).map b8)) rfl (by first | rfl | (congr 1; simp; done) | (simp only [List.map_append]; rfl) | (rw [List.map_append]; rfl)) ?_
     refine la rfl rfl rfl rfl rfl ?_
     refine L_nil ?_
     refine T_reg hF rfl ?_
     refine lm rfl rfl rfl rfl rfl ?_
     refine lo rfl (pr_add (na_i64 (a := k) (b := 1) sd) rfl rfl rfl) rfl rfl ?_
     refine la rfl rfl rfl rfl rfl ?_
     refine L_nil ?_
     refine T_slot 6 (.slice A13 (32 * k + 32) C14) (.slice A13 (32 * (k + 1)) C14) rfl (by first | rfl | (congr 2; omega) | (simp; omega)) ?_
     refine T_as 0 _ (.row (.slice A13 (32 * (k + 1)) C14) 5 1 (32 * (k + 1)) ((pkl ((xs ++ List.replicate (q - n) rdead).take (k + 1))).map b8)) rfl (by first | (rw [pk_in hx (by assumption) hnq]; rfl) | (rw [pk_out hx (by assumption) (by assumption) hnq]; rfl)) ?_
     exact T_again (k + 1, A13, C14) (by first | trivial | ((try dsimp only); first | omega | (refine ⟨?_, ?_⟩ <;> omega) | (refine ⟨?_, ?_, ?_⟩ <;> omega) | (simp; done) | (simp; omega))) (by first | trivial | ((try dsimp only); first | omega | (refine ⟨?_, ?_⟩ <;> omega) | (refine ⟨?_, ?_, ?_⟩ <;> omega) | (simp; done) | (simp; omega))) (sc rfl (sc rfl (sc rfl (sc rfl sn)))) [0, 3] ⟨by decide, rfl⟩
    ·
     have hc_9 := of_decide_eq_false hc_9
     refine T_skip ?_
     refine Tsr hF rfl ?_
     refine lq rfl (ld_agg (ds := [(.bool true), (.int .i64 ((0 : Nat) : Int)), (.int .i64 ((0 : Nat) : Int)), (.int .i64 ((0 : Nat) : Int))]) 0 rfl agg_all Try.underlying43 rfl kr rfl rfl) rfl rfl ?_
     refine L_op rfl (op_cn (fun w hw => rrpack_f true (0#64) (0#64) (0#64) w (hok_nil w) ) (enters_of Try.func43 kr rfl) rfl rfl rfl rfl rfl (fun t15 q16 => ?_))
     refine L_op rfl (op_alloc (z := .agg ((List.replicate 32 0#8).map b8).toArray) (zs := ((List.replicate 32 0#8).map b8)) kr rfl rfl rfl rfl (fun g17 => ?_))
     refine L_op rfl (op_sto (n := 32) (vs := ((rpk (Rc.mk true (0#64) (0#64) (0#64))).map b8)) 0 rfl rfl kr (all8_one _) kr sd rfl rfl rfl rfl ?_)
     refine L_nil ?_
     refine T_reg hF rfl ?_
     refine lm rfl rfl rfl rfl rfl ?_
     refine lo rfl (pr_sla (l := 0) (u := 32) (m := 0) sd sd sd rfl Try.underlying50 (z := 1) kr rfl rfl rfl rfl) rfl rfl ?_
     refine L_op rfl (op_append (z := (b8 (0#8))) (size := 1) (bytes := 1) 2 rfl Try.underlying23 kr kr (by decide) (src_full (z := 1) 0 rfl sd sd sd) (all8_one _) sd sd rfl rfl rfl rfl rfl (fun A18 C19 => ?_))
     refine T_as 0 _ (.row (.slice A18 (32 * k + 32) C19) 5 1 (32 * k + 32) (((pkl ((xs ++ List.replicate (q - n) rdead).take k)) ++ (rpk (Rc.mk true (0#64) (0#64) (0#64)))).map b8)) rfl (by first | rfl | (congr 1; simp; done) | (simp only [List.map_append]; rfl) | (rw [List.map_append]; rfl)) ?_
     refine la rfl rfl rfl rfl rfl ?_
     refine L_nil ?_
     refine T_reg hF rfl ?_
     refine lm rfl rfl rfl rfl rfl ?_
     refine lo rfl (pr_add (na_i64 (a := k) (b := 1) sd) rfl rfl rfl) rfl rfl ?_
     refine la rfl rfl rfl rfl rfl ?_
     refine L_nil ?_
     refine T_slot 6 (.slice A18 (32 * k + 32) C19) (.slice A18 (32 * (k + 1)) C19) rfl (by first | rfl | (congr 2; omega) | (simp; omega)) ?_
     refine T_as 0 _ (.row (.slice A18 (32 * (k + 1)) C19) 5 1 (32 * (k + 1)) ((pkl ((xs ++ List.replicate (q - n) rdead).take (k + 1))).map b8)) rfl (by first | (rw [pk_in hx (by assumption) hnq]; rfl) | (rw [pk_out hx (by assumption) (by assumption) hnq]; rfl)) ?_
     exact T_again (k + 1, A18, C19) (by first | trivial | ((try dsimp only); first | omega | (refine ⟨?_, ?_⟩ <;> omega) | (refine ⟨?_, ?_, ?_⟩ <;> omega) | (simp; done) | (simp; omega))) (by first | trivial | ((try dsimp only); first | omega | (refine ⟨?_, ?_⟩ <;> omega) | (refine ⟨?_, ?_, ?_⟩ <;> omega) | (simp; done) | (simp; omega))) (sc rfl (sc rfl (sc rfl (sc rfl sn)))) [0, 3] ⟨by decide, rfl⟩
   ·
    have hc_5 := of_decide_eq_false hc_5
    refine T_exit rfl ?_
    obtain rfl : q = k := by omega
    refine Tsr hF rfl ?_
    refine lm rfl rfl rfl rfl rfl ?_
    refine la rfl rfl rfl rfl rfl ?_
    refine la rfl rfl rfl rfl rfl ?_
    refine L_nil ?_
    refine T_ret ?_
    refine T_slot 4 (.slice A1 (32 * q) c1) (.slice A1 (bpl n z) c1) rfl (by first | rfl | (rw [bpl_arg (mayb_f (by assumption)), bpb_arg (mayb_f (by assumption))]; rfl) | (rw [bpl_lim hz1 hz2 (by assumption), bpb_lim hz1 hz2 (by omega)]; rfl) | (rw [bpl_ok hq hz1 hz2 (by assumption), bpb_ok hx hq hz1 hz2 (by assumption), List.take_of_length_le (by simp; omega), show n + (q - n) = q from by omega]) | (rw [bpe_arg (mayb_f (by assumption))]) | (rw [bpl_arg (mayb_f (by assumption))]) | (rw [bpe_lim hz1 hz2 (by assumption)]) | (rw [bpl_lim hz1 hz2 (by assumption)]) | (rw [bpe_ok hz1 hz2 (by assumption)]) | (rw [bpl_ok hq hz1 hz2 (by assumption), show n + (q - n) = q from by omega])) ?_
    refine T_slot 5 (.int .i64 ((0 : Nat) : Int)) (.int .i64 (((bpe n z) : Nat) : Int)) rfl (by first | rfl | (rw [bpl_arg (mayb_f (by assumption)), bpb_arg (mayb_f (by assumption))]; rfl) | (rw [bpl_lim hz1 hz2 (by assumption), bpb_lim hz1 hz2 (by omega)]; rfl) | (rw [bpl_ok hq hz1 hz2 (by assumption), bpb_ok hx hq hz1 hz2 (by assumption), List.take_of_length_le (by simp; omega), show n + (q - n) = q from by omega]) | (rw [bpe_arg (mayb_f (by assumption))]) | (rw [bpl_arg (mayb_f (by assumption))]) | (rw [bpe_lim hz1 hz2 (by assumption)]) | (rw [bpl_lim hz1 hz2 (by assumption)]) | (rw [bpe_ok hz1 hz2 (by assumption)]) | (rw [bpl_ok hq hz1 hz2 (by assumption), show n + (q - n) = q from by omega])) ?_
    refine T_as 0 _ (.row (.slice A1 (bpl n z) c1) 5 1 (bpl n z) ((bpb xs z).map b8)) rfl (by first | rfl | (rw [bpl_arg (mayb_f (by assumption)), bpb_arg (mayb_f (by assumption))]; rfl) | (rw [bpl_lim hz1 hz2 (by assumption), bpb_lim hz1 hz2 (by omega)]; rfl) | (rw [bpl_ok hq hz1 hz2 (by assumption), bpb_ok hx hq hz1 hz2 (by assumption), List.take_of_length_le (by simp; omega), show n + (q - n) = q from by omega]) | (rw [bpe_arg (mayb_f (by assumption))]) | (rw [bpl_arg (mayb_f (by assumption))]) | (rw [bpe_lim hz1 hz2 (by assumption)]) | (rw [bpl_lim hz1 hz2 (by assumption)]) | (rw [bpe_ok hz1 hz2 (by assumption)]) | (rw [bpl_ok hq hz1 hz2 (by assumption), show n + (q - n) = q from by omega])) ?_
    exact T_fin (A1, c1) (by first | trivial | omega | (simp; done)) (res2 rfl rfl rfl) [0] ⟨by decide, rfl⟩ rfl
end Go.Proofs.Ytlplpmkdebemnaa
