/- Bytes taken as records, by facts. No conditions but lengths. -/
import Derived.Test.YtlplpmkdebemnaaGBlk1
import Derived.Test.YtlplpmkdebemnaaFwP
import Derived.Test.YtlplpmkdebemnaaProg
import Derived.Test.YtlplpmkdebemnaaFwU
namespace Go.Proofs.Ytlplpmkdebemnaa
set_option linter.unusedVariables false
set_option linter.unusedSimpArgs false
set_option linter.unnecessarySimpa false
set_option maxRecDepth 100000
open Go.RowKit Bv Fw

/-- What may not be a record. -/
def RBad (w : List (BitVec 64)) : Prop := 1#64 < ath w 0 ∨ (ath w 0 = 1#64 ∧ (ath w 1 ≠ 0#64 ∨ ath w 2 ≠ 0#64 ∨ ath w 3 ≠ 0#64))
instance (w : List (BitVec 64)) : Decidable (RBad w) := by unfold RBad; infer_instance
/-- Why bytes are no record; the record that they are. -/
def rte (b : List (BitVec 8)) : Nat := if b.length < 32 then 3 else if 32 < b.length then 4 else if RBad (wds b 4) then 4 else 0
def rof (w : List (BitVec 64)) : Rc := ⟨ath w 0 == 1#64, ath w 1, ath w 2, ath w 3⟩
def rtk (b : List (BitVec 8)) : Rc := if rte b = 0 then rof (wds b 4) else rc0
theorem rte_short {b : List (BitVec 8)} (h : b.length < 32) : rte b = 3 := by unfold rte; rw [if_pos h]
theorem rte_long {b : List (BitVec 8)} (h : 32 < b.length) : rte b = 4 := by unfold rte; rw [if_neg (by omega), if_pos h]
theorem rte_bad {b : List (BitVec 8)} (hl : b.length = 32) (h : RBad (wds b 4)) : rte b = 4 := by unfold rte; rw [if_neg (by omega), if_neg (by omega), if_pos h]
theorem rte_ok {b : List (BitVec 8)} (hl : b.length = 32) (h : ¬ RBad (wds b 4)) : rte b = 0 := by unfold rte; rw [if_neg (by omega), if_neg (by omega), if_neg h]
theorem rtk_no {b : List (BitVec 8)} (h : rte b ≠ 0) : rtk b = rc0 := by unfold rtk; rw [if_neg h]
theorem rtk_ok {b : List (BitVec 8)} (h : rte b = 0) : rtk b = rof (wds b 4) := by unfold rtk; rw [if_pos h]
theorem wds4 (b : List (BitVec 8)) (hb : b.length = 32) : wds b 4 = [low (List.take 8 b) 8, low (List.take 8 (List.drop 8 b)) 8, low (List.take 8 (List.drop 16 b)) 8, low (List.drop 24 b) 8] := by
  have h : List.take 8 (List.drop 24 b) = List.drop 24 b := List.take_of_length_le (by simp; omega)
  simp [wds, h]
theorem i64_z (x : BitVec 64) : (i64 x == ((0 : Nat) : Int)) = (x == 0#64) := by
  rw [Bool.eq_iff_iff, beq_iff_eq, beq_iff_eq]
  unfold i64
  constructor
  · intro h; exact BitVec.toInt_inj.1 (by rw [h]; rfl)
  · rintro rfl; rfl
theorem rb1 {w : List (BitVec 64)} (h : 1#64 < ath w 0) : RBad w := .inl h
theorem rb2 {w : List (BitVec 64)} (h0 : ath w 0 = 1#64) (h : (!(((ath w 0 == 1#64) == true) && ((i64 (ath w 1) == ((0 : Nat) : Int)) && ((i64 (ath w 2) == ((0 : Nat) : Int)) && ((i64 (ath w 3) == ((0 : Nat) : Int)) && true))))) = true) : RBad w := by
  rw [i64_z, i64_z, i64_z, h0] at h
  refine .inr ⟨h0, ?_⟩
  by_cases h1 : ath w 1 = 0#64
  · by_cases h2 : ath w 2 = 0#64
    · by_cases h3 : ath w 3 = 0#64
      · simp [h1, h2, h3] at h
      · exact .inr (.inr h3)
    · exact .inr (.inl h2)
  · exact .inl h1
theorem nb1 {w : List (BitVec 64)} (h1 : ¬ 1#64 < ath w 0) (h0 : ath w 0 = 1#64) (h : (!(((ath w 0 == 1#64) == true) && ((i64 (ath w 1) == ((0 : Nat) : Int)) && ((i64 (ath w 2) == ((0 : Nat) : Int)) && ((i64 (ath w 3) == ((0 : Nat) : Int)) && true))))) = false) : ¬ RBad w := by
  rw [i64_z, i64_z, i64_z, h0] at h
  simp at h
  rintro (q | ⟨_, q | q | q⟩)
  · exact h1 q
  · exact q h.1
  · exact q h.2.1
  · exact q h.2.2
theorem nb2 {w : List (BitVec 64)} (h1 : ¬ 1#64 < ath w 0) (h0 : ¬ ath w 0 = 1#64) : ¬ RBad w := by
  rintro (q | ⟨q, _⟩)
  · exact h1 q
  · exact h0 q
theorem rb3 {w : List (BitVec 64)} (h0 : ath w 0 = 1#64) (h : ¬ ath w 1 = 0#64) : RBad w := .inr ⟨h0, .inl h⟩
theorem rb4 {w : List (BitVec 64)} (h0 : ath w 0 = 1#64) (h : ¬ ath w 2 = 0#64) : RBad w := .inr ⟨h0, .inr (.inl h)⟩
theorem rb5 {w : List (BitVec 64)} (h0 : ath w 0 = 1#64) (h : ¬ ath w 3 = 0#64) : RBad w := .inr ⟨h0, .inr (.inr h)⟩
theorem nb3 {w : List (BitVec 64)} (h1 : ¬ 1#64 < ath w 0) (q1 : ath w 1 = 0#64) (q2 : ath w 2 = 0#64) (q3 : ath w 3 = 0#64) : ¬ RBad w := by
  rintro (q | ⟨_, q | q | q⟩)
  · exact h1 q
  · exact q q1
  · exact q q2
  · exact q q3

set_option maxHeartbeats 4000000 in
theorem rtake_f (b : List (BitVec 8)) (A : Option Addr) (n : Nat) (c : Nat) (w : World) (hO : HOK [.rd A 1 n c (b.map b8)] w) (hb : b.length = n) (hn : n ≤ 1000000) : Calls Try.prog 45 [(.slice A n c)].toArray w (Ret (T := Unit) [] w (fun _ => True) (fun _ => (.tuple [(.agg [(.bool ((rtk b).d)), (.int .i64 (i64 (rtk b).k)), (.int .i64 (i64 (rtk b).v)), (.int .i64 (i64 (rtk b).s))].toArray), (.int .i64 (((rte b) : Nat) : Int))].toArray)) (fun _ => [])) := by
 have hF : Wid Fence.wide := wid_wide
 refine enter_m (c := _) Try.func45 rfl [] _ [.rd A 1 n c (b.map b8)] (by rw [Try.ntmps45]; rfl) (own_rds hO rfl) ?_
 rw [Try.ntmps45]
 refine T_re [(0, (.slice A n c))] (sc rfl sn) ?_
 refine T_he [0] [.rd A 1 n c (b.map b8)] ⟨by decide, rfl⟩ ?_
 refine Tsr hF rfl ?_
 refine L_op rfl (op_alloc (z := .agg [(.bool false), (.int .i64 ((0 : Nat) : Int)), (.int .i64 ((0 : Nat) : Int)), (.int .i64 ((0 : Nat) : Int))].toArray) (zs := [(.bool false), (.int .i64 ((0 : Nat) : Int)), (.int .i64 ((0 : Nat) : Int)), (.int .i64 ((0 : Nat) : Int))]) kr rfl rfl rfl rfl (fun g1 => ?_))
 refine la rfl rfl rfl rfl rfl ?_
 refine L_nil ?_
 refine T_seq ?_
 refine T_block ?_
 refine Tsr hF rfl ?_
 refine lm rfl rfl rfl rfl rfl ?_
 refine lo rfl (pr_len_sl Try.underlying23 rfl rfl) rfl rfl ?_
 refine lo rfl (pr_cmp (bo := .lss) (nc_lt (a := n) (b := 32)) rfl rfl rfl rfl) rfl rfl ?_
 refine la rfl rfl rfl rfl rfl ?_
 refine L_nil ?_
 refine T_cond (decide (n < 32)) rfl (fun hc_2 => ?_) (fun hc_2 => ?_)
 ·
  have hc_2 := of_decide_eq_true hc_2
  refine Tsr hF rfl ?_
  refine lo rfl (pr_build (qs := []) (v := .agg [(.bool false), (.int .i64 ((0 : Nat) : Int)), (.int .i64 ((0 : Nat) : Int)), (.int .i64 ((0 : Nat) : Int))].toArray) (fun _ => by kernel_rfl) rfl rfl) rfl rfl ?_
  refine L_op rfl (op_sto (n := 4) (vs := [(.bool false), (.int .i64 ((0 : Nat) : Int)), (.int .i64 ((0 : Nat) : Int)), (.int .i64 ((0 : Nat) : Int))]) 0 rfl rfl kr (by simp [Value.oneCell']) kr kr rfl rfl rfl rfl ?_)
  refine la rfl rfl rfl rfl rfl ?_
  refine L_nil ?_
  refine T_ret ?_
  refine T_as 0 _ (.blk g1 43 [(.bool ((rtk b).d)), (.int .i64 (i64 (rtk b).k)), (.int .i64 (i64 (rtk b).v)), (.int .i64 (i64 (rtk b).s))]) rfl (by first | rfl | (rw [rtk_no (by rw [rte_short (by omega)]; decide)]; rfl) | rw [rte_short (by omega)] | (rw [rtk_no (by rw [rte_long (by omega)]; decide)]; rfl) | rw [rte_long (by omega)] | (rw [rtk_no (by rw [rte_bad (by omega) (rb1 (by assumption))]; decide)]; rfl) | rw [rte_bad (by omega) (rb1 (by assumption))] | (rw [rtk_no (by rw [rte_bad (by omega) (rb2 (by assumption) (by assumption))]; decide)]; rfl) | rw [rte_bad (by omega) (rb2 (by assumption) (by assumption))] | (rw [rtk_no (by rw [rte_bad (by omega) (rb3 (by assumption) (by assumption))]; decide)]; rfl) | rw [rte_bad (by omega) (rb3 (by assumption) (by assumption))] | (rw [rtk_no (by rw [rte_bad (by omega) (rb4 (by assumption) (by assumption))]; decide)]; rfl) | rw [rte_bad (by omega) (rb4 (by assumption) (by assumption))] | (rw [rtk_no (by rw [rte_bad (by omega) (rb5 (by assumption) (by assumption))]; decide)]; rfl) | rw [rte_bad (by omega) (rb5 (by assumption) (by assumption))] | (rw [rtk_ok (rte_ok (by omega) (nb1 (by assumption) (by assumption) (by assumption)))]; rfl) | rw [rte_ok (by omega) (nb1 (by assumption) (by assumption) (by assumption))] | (rw [rtk_ok (rte_ok (by omega) (nb2 (by assumption) (by assumption)))]; rfl) | rw [rte_ok (by omega) (nb2 (by assumption) (by assumption))] | (rw [rtk_ok (rte_ok (by omega) (nb3 (by assumption) (by assumption) (by assumption) (by assumption)))]; rfl) | rw [rte_ok (by omega) (nb3 (by assumption) (by assumption) (by assumption) (by assumption))]) ?_
  refine T_slot 3 (.int .i64 ((3 : Nat) : Int)) (.int .i64 (((rte b) : Nat) : Int)) rfl (by first | rfl | (rw [rtk_no (by rw [rte_short (by omega)]; decide)]; rfl) | rw [rte_short (by omega)] | (rw [rtk_no (by rw [rte_long (by omega)]; decide)]; rfl) | rw [rte_long (by omega)] | (rw [rtk_no (by rw [rte_bad (by omega) (rb1 (by assumption))]; decide)]; rfl) | rw [rte_bad (by omega) (rb1 (by assumption))] | (rw [rtk_no (by rw [rte_bad (by omega) (rb2 (by assumption) (by assumption))]; decide)]; rfl) | rw [rte_bad (by omega) (rb2 (by assumption) (by assumption))] | (rw [rtk_no (by rw [rte_bad (by omega) (rb3 (by assumption) (by assumption))]; decide)]; rfl) | rw [rte_bad (by omega) (rb3 (by assumption) (by assumption))] | (rw [rtk_no (by rw [rte_bad (by omega) (rb4 (by assumption) (by assumption))]; decide)]; rfl) | rw [rte_bad (by omega) (rb4 (by assumption) (by assumption))] | (rw [rtk_no (by rw [rte_bad (by omega) (rb5 (by assumption) (by assumption))]; decide)]; rfl) | rw [rte_bad (by omega) (rb5 (by assumption) (by assumption))] | (rw [rtk_ok (rte_ok (by omega) (nb1 (by assumption) (by assumption) (by assumption)))]; rfl) | rw [rte_ok (by omega) (nb1 (by assumption) (by assumption) (by assumption))] | (rw [rtk_ok (rte_ok (by omega) (nb2 (by assumption) (by assumption)))]; rfl) | rw [rte_ok (by omega) (nb2 (by assumption) (by assumption))] | (rw [rtk_ok (rte_ok (by omega) (nb3 (by assumption) (by assumption) (by assumption) (by assumption)))]; rfl) | rw [rte_ok (by omega) (nb3 (by assumption) (by assumption) (by assumption) (by assumption))]) ?_
  exact T_finM0 () (by first | trivial | omega | (simp; done)) (resct 0 rfl rfl rfl Try.underlying43 rfl kr rfl) [] ⟨by decide, rfl⟩ rfl
 ·
  have hc_2 := of_decide_eq_false hc_2
  refine Tsr hF rfl ?_
  refine lm rfl rfl rfl rfl rfl ?_
  refine lo rfl (pr_len_sl Try.underlying23 rfl rfl) rfl rfl ?_
  refine lo rfl (pr_cmp (bo := .gtr) (nc_lt (a := 32) (b := n)) rfl rfl rfl rfl) rfl rfl ?_
  refine la rfl rfl rfl rfl rfl ?_
  refine L_nil ?_
  refine T_cond (decide (32 < n)) rfl (fun hc_3 => ?_) (fun hc_3 => ?_)
  ·
   have hc_3 := of_decide_eq_true hc_3
   refine Tsr hF rfl ?_
   refine lo rfl (pr_build (qs := []) (v := .agg [(.bool false), (.int .i64 ((0 : Nat) : Int)), (.int .i64 ((0 : Nat) : Int)), (.int .i64 ((0 : Nat) : Int))].toArray) (fun _ => by kernel_rfl) rfl rfl) rfl rfl ?_
   refine L_op rfl (op_sto (n := 4) (vs := [(.bool false), (.int .i64 ((0 : Nat) : Int)), (.int .i64 ((0 : Nat) : Int)), (.int .i64 ((0 : Nat) : Int))]) 0 rfl rfl kr (by simp [Value.oneCell']) kr kr rfl rfl rfl rfl ?_)
   refine la rfl rfl rfl rfl rfl ?_
   refine L_nil ?_
   refine T_ret ?_
   refine T_as 0 _ (.blk g1 43 [(.bool ((rtk b).d)), (.int .i64 (i64 (rtk b).k)), (.int .i64 (i64 (rtk b).v)), (.int .i64 (i64 (rtk b).s))]) rfl (by first | rfl | (rw [rtk_no (by rw [rte_short (by omega)]; decide)]; rfl) | rw [rte_short (by omega)] | (rw [rtk_no (by rw [rte_long (by omega)]; decide)]; rfl) | rw [rte_long (by omega)] | (rw [rtk_no (by rw [rte_bad (by omega) (rb1 (by assumption))]; decide)]; rfl) | rw [rte_bad (by omega) (rb1 (by assumption))] | (rw [rtk_no (by rw [rte_bad (by omega) (rb2 (by assumption) (by assumption))]; decide)]; rfl) | rw [rte_bad (by omega) (rb2 (by assumption) (by assumption))] | (rw [rtk_no (by rw [rte_bad (by omega) (rb3 (by assumption) (by assumption))]; decide)]; rfl) | rw [rte_bad (by omega) (rb3 (by assumption) (by assumption))] | (rw [rtk_no (by rw [rte_bad (by omega) (rb4 (by assumption) (by assumption))]; decide)]; rfl) | rw [rte_bad (by omega) (rb4 (by assumption) (by assumption))] | (rw [rtk_no (by rw [rte_bad (by omega) (rb5 (by assumption) (by assumption))]; decide)]; rfl) | rw [rte_bad (by omega) (rb5 (by assumption) (by assumption))] | (rw [rtk_ok (rte_ok (by omega) (nb1 (by assumption) (by assumption) (by assumption)))]; rfl) | rw [rte_ok (by omega) (nb1 (by assumption) (by assumption) (by assumption))] | (rw [rtk_ok (rte_ok (by omega) (nb2 (by assumption) (by assumption)))]; rfl) | rw [rte_ok (by omega) (nb2 (by assumption) (by assumption))] | (rw [rtk_ok (rte_ok (by omega) (nb3 (by assumption) (by assumption) (by assumption) (by assumption)))]; rfl) | rw [rte_ok (by omega) (nb3 (by assumption) (by assumption) (by assumption) (by assumption))]) ?_
   refine T_slot 3 (.int .i64 ((4 : Nat) : Int)) (.int .i64 (((rte b) : Nat) : Int)) rfl (by first | rfl | (rw [rtk_no (by rw [rte_short (by omega)]; decide)]; rfl) | rw [rte_short (by omega)] | (rw [rtk_no (by rw [rte_long (by omega)]; decide)]; rfl) | rw [rte_long (by omega)] | (rw [rtk_no (by rw [rte_bad (by omega) (rb1 (by assumption))]; decide)]; rfl) | rw [rte_bad (by omega) (rb1 (by assumption))] | (rw [rtk_no (by rw [rte_bad (by omega) (rb2 (by assumption) (by assumption))]; decide)]; rfl) | rw [rte_bad (by omega) (rb2 (by assumption) (by assumption))] | (rw [rtk_no (by rw [rte_bad (by omega) (rb3 (by assumption) (by assumption))]; decide)]; rfl) | rw [rte_bad (by omega) (rb3 (by assumption) (by assumption))] | (rw [rtk_no (by rw [rte_bad (by omega) (rb4 (by assumption) (by assumption))]; decide)]; rfl) | rw [rte_bad (by omega) (rb4 (by assumption) (by assumption))] | (rw [rtk_no (by rw [rte_bad (by omega) (rb5 (by assumption) (by assumption))]; decide)]; rfl) | rw [rte_bad (by omega) (rb5 (by assumption) (by assumption))] | (rw [rtk_ok (rte_ok (by omega) (nb1 (by assumption) (by assumption) (by assumption)))]; rfl) | rw [rte_ok (by omega) (nb1 (by assumption) (by assumption) (by assumption))] | (rw [rtk_ok (rte_ok (by omega) (nb2 (by assumption) (by assumption)))]; rfl) | rw [rte_ok (by omega) (nb2 (by assumption) (by assumption))] | (rw [rtk_ok (rte_ok (by omega) (nb3 (by assumption) (by assumption) (by assumption) (by assumption)))]; rfl) | rw [rte_ok (by omega) (nb3 (by assumption) (by assumption) (by assumption) (by assumption))]) ?_
   exact T_finM0 () (by first | trivial | omega | (simp; done)) (resct 0 rfl rfl rfl Try.underlying43 rfl kr rfl) [] ⟨by decide, rfl⟩ rfl
  ·
   have hc_3 := of_decide_eq_false hc_3
   refine T_skip ?_
   refine Tsr hF rfl ?_
   refine L_op rfl (op_alloc (z := (.slice none 0 0)) (zs := [(.slice none 0 0)]) kr rfl rfl rfl rfl (fun g4 => ?_))
   refine L_nil ?_
   refine T_seq ?_
   refine Tsr hF rfl ?_
   refine lm rfl rfl rfl rfl rfl ?_
   refine L_op rfl (op_cn (fun w hw => chunk_f A n c 8 w (hok_nil w) sd) (enters_of Try.func44 kr rfl) rfl rfl rfl rfl rfl (fun t5 q6 => ?_))
   obtain ⟨g1_7, g2_8⟩ := t5
   refine L_nil ?_
   refine T_block ?_
   refine T_tord 0 rfl ?_
   refine T_tord 1 rfl ?_
   refine T_nilrow 30 1 ?_
   refine T_as 0 _ (.row (.slice none 0 0) 30 1 0 ((wds b 0).map b64)) rfl (by first | rfl | simp | (congr 1; simp)) ?_
   refine T_range (Θ := Option Addr) (T := Option Addr × Nat) (Tx := Unit) (cap := [(.pointer (some ⟨g1_7, 0, none⟩)), (.pointer (some ⟨g2_8, 0, none⟩))]) (ps := [19]) (chunk_seq b 8 A n c g1_7 g2_8 sd sd sd sd) rfl (enters_of Try.func65 kr rfl) (fun k ⟨A1, c1⟩ => k ≤ 4) (fun k ⟨A1, c1⟩ => [.row (.slice A1 k c1) 30 1 k ((wds b k).map b64), .rd (some ⟨g1_7, 0, none⟩) 1 1 1 [(.slice A n c)], .blk g4 69 [(.slice A1 k c1)], .blk g1 43 [(.bool false), (.int .i64 ((0 : Nat) : Int)), (.int .i64 ((0 : Nat) : Int)), (.int .i64 ((0 : Nat) : Int))], .rd A 1 n c (b.map b8)]) (fun _ => False) (fun _ => []) 0 (none, 0) (by omega) [0, 2, 3, 4, 5] ⟨by decide, rfl⟩ [2, 1, 5] rfl rfl (fun _ _ => rfl) (fun _ => rfl) (fun _ _ => rfl) (fun _ _ => rfl) rfl (fun _ => trivial) ?_ ?_ ?_
   ·
    intro C2 w2 lo2 rs2 l D m k t th rc hrec hk hp
    obtain ⟨A1, c1⟩ := t
    obtain ⟨B, rfl⟩ : ∃ x, x = th := ⟨_, rfl⟩
    have hp : k ≤ 4 := hp
    have hk : k < (n + 8 - 1) / 8 := hk
    have hF : Wid (Fence.wide.inRound l) := wid_round l
    refine T_re [(4, (.pointer (some ⟨g4, 0, none⟩))), (19, (.slice B (min 8 (n - 8 * k)) (min 8 (n - 8 * k))))] (sc rfl (sc rfl sn)) ?_
    refine T_he [0, 1, 2, 3, 4, 5, 6, 7] [.rd B 1 (min 8 (n - 8 * k)) (min 8 (n - 8 * k)) ((List.take (min 8 (n - 8 * k)) (List.drop (8 * k) b)).map b8), .obj l (.loop rc), .obj D (.deferred (some [])), .row (.slice A1 k c1) 30 1 k ((wds b k).map b64), .rd (some ⟨g1_7, 0, none⟩) 1 1 1 [(.slice A n c)], .blk g4 69 [(.slice A1 k c1)], .blk g1 43 [(.bool false), (.int .i64 ((0 : Nat) : Int)), (.int .i64 ((0 : Nat) : Int)), (.int .i64 ((0 : Nat) : Int))], .rd A 1 n c (b.map b8)] ⟨by decide, rfl⟩ ?_
    refine T_reg hF rfl ?_
    refine la rfl rfl rfl rfl rfl ?_
    refine L_nil ?_
    refine T_begun 1 rfl hrec ?_
    refine T_block ?_
    refine T_regD [.obj l (.loop { rc with state := .busy }), .rd B 1 (min 8 (n - 8 * k)) (min 8 (n - 8 * k)) ((List.take (min 8 (n - 8 * k)) (List.drop (8 * k) b)).map b8), .obj D (.deferred (some [])), .row (.slice A1 k c1) 30 1 k ((wds b k).map b64), .rd (some ⟨g1_7, 0, none⟩) 1 1 1 [(.slice A n c)], .blk g4 69 [(.slice A1 k c1)], .blk g1 43 [(.bool false), (.int .i64 ((0 : Nat) : Int)), (.int .i64 ((0 : Nat) : Int)), (.int .i64 ((0 : Nat) : Int))], .rd A 1 n c (b.map b8)] 4 6 #[false, false, false, false, false, false] hF kr kr ?_
    refine D_pure (i := 1) [0, 1, 2, 3, 4, 5, 6, 7] rfl kr rfl (pr_move rfl rfl) (.inr rfl) rfl rfl ?_
    refine D_take (i := 0) [0, 1, 2, 3, 4, 5, 6, 7] rfl kr rfl (ld_blk 5 rfl rfl Try.underlying69 rfl rfl rfl) rfl rfl rfl ?_
    refine D_one 2 _ rfl kr rfl (op_cn (fun w hw => low_f (List.take (min 8 (n - 8 * k)) (List.drop (8 * k) b)) 8 B (min 8 (n - 8 * k)) (min 8 (n - 8 * k)) w (hok_cons ((src_rd 1 rfl) w hw) (hok_nil w)) sd sd sd) (enters_of Try.func61 kr rfl) rfl rfl rfl rfl rfl (fun t9 q10 => ?_))
    refine D_on [0, 1, 2, 3, 4, 5, 6, 7] rfl ?_
    refine D_one 3 _ rfl kr rfl (op_bslice (e := 30) (zs := [(b64 (low (List.take (min 8 (n - 8 * k)) (List.drop (8 * k) b)) 8))]) (qs := [(0, (b64 (low (List.take (min 8 (n - 8 * k)) (List.drop (8 * k) b)) 8)))]) (fun _ => by kernel_rfl) rfl rfl rfl rfl (fun g11 => ?_))
    refine D_on [1, 2, 3, 4, 5, 6, 7, 8] rfl ?_
    refine D_one 4 _ rfl kr rfl (op_append (z := (b64 (0#64))) (size := 1) (bytes := 8) 4 rfl Try.underlying69 kr kr (by decide) (src_full (z := 1) 0 rfl rfl sd sd) (by simp [Value.oneCell']) sd sd rfl rfl rfl rfl rfl (fun A12 C13 => ?_))
    refine T_as 0 _ (.row (.slice A12 (k + 1) C13) 30 1 (k + 1) (((wds b k) ++ [(low (List.take (min 8 (n - 8 * k)) (List.drop (8 * k) b)) 8)]).map b64)) rfl (by first | rfl | (congr 1; simp; done) | (simp only [List.map_append]; rfl) | (rw [List.map_append]; rfl)) ?_
    refine D_past kr ?_
    refine D_one 5 _ rfl kr rfl (op_store (vs := [(.slice A12 (k + 1) C13)]) (cs' := [(.slice A12 (k + 1) C13)]) 6 rfl rfl kr (one_one rfl) (by first | decide | simp | exact Nat.le_refl _) rfl rfl rfl rfl rfl ?_)
    refine D_past kr ?_
    refine D_done kr ?_
    refine T_as 1 _ (.row (.slice A12 (k + 1) C13) 30 1 (k + 1) ((wds b (k + 1)).map b64)) rfl (by rw [wds, show min 8 (n - 8 * k) = 8 from by omega]) ?_
    exact T_on (A12, C13) (by dsimp only; omega) [3, 5, 0, 6, 1, 7, 8] ⟨by decide, rfl⟩
   ·
    intro D t hp
    obtain ⟨A1, c1⟩ := t
    have hp : ((n + 8 - 1) / 8) ≤ 4 := hp
    have hn4 : (n + 8 - 1) / 8 = 4 := by omega
    have hwl := wds_len b 4
    refine T_re [(2, (.pointer (some ⟨g1, 0, none⟩))), (4, (.pointer (some ⟨g4, 0, none⟩)))] (sc rfl (sc rfl sn)) ?_
    refine T_he [0, 1, 2, 3, 4, 5] [.obj D (.deferred (some [])), .row (.slice A1 ((n + 8 - 1) / 8) c1) 30 1 ((n + 8 - 1) / 8) ((wds b ((n + 8 - 1) / 8)).map b64), .rd (some ⟨g1_7, 0, none⟩) 1 1 1 [(.slice A n c)], .blk g4 69 [(.slice A1 ((n + 8 - 1) / 8) c1)], .blk g1 43 [(.bool false), (.int .i64 ((0 : Nat) : Int)), (.int .i64 ((0 : Nat) : Int)), (.int .i64 ((0 : Nat) : Int))], .rd A 1 n c (b.map b8)] ⟨by decide, rfl⟩ ?_
    refine T_as 1 _ (.row (.slice A1 4 c1) 30 1 4 ((wds b 4).map b64)) rfl (by rw [hn4]) ?_
    refine T_as 3 _ (.blk g4 69 [(.slice A1 4 c1)]) rfl (by rw [hn4]) ?_
    refine T_seq ?_
    refine T_regD [.blk g4 69 [(.slice A1 4 c1)], .row (.slice A1 4 c1) 30 1 4 ((wds b 4).map b64), .obj D (.deferred (some [])), .rd (some ⟨g1_7, 0, none⟩) 1 1 1 [(.slice A n c)], .blk g1 43 [(.bool false), (.int .i64 ((0 : Nat) : Int)), (.int .i64 ((0 : Nat) : Int)), (.int .i64 ((0 : Nat) : Int))], .rd A 1 n c (b.map b8)] 19 19 #[false, false, false, false, false, false, false, false, false, false, false, false, false, false, false, false, false, false, false] hF kr kr ?_
    refine D_take (i := 0) [0, 1, 2, 3, 4, 5] rfl kr rfl (ld_blk 0 rfl rfl Try.underlying69 rfl rfl rfl) rfl rfl rfl ?_
    refine D_pure (i := 1) [0, 1, 2, 3, 4, 5] rfl kr rfl (pr_ixs1 (j := 0) (src_none (src_row 1 rfl)) sd Try.underlying69 kr rfl rfl rfl) (.inr rfl) rfl rfl ?_
    refine D_take (i := 2) [0, 1, 2, 3, 4, 5] rfl kr rfl (ld_src (m := 0) (src_row 1 rfl) (get64 sd) Try.underlying30 rfl rfl rfl) rfl rfl rfl ?_
    refine D_pure (i := 3) [0, 1, 2, 3, 4, 5] rfl kr rfl (pr_cmp (bo := .eql) (n64_beq (ath (wds b 4) 0) (1#64)) rfl rfl rfl rfl) (.inr rfl) rfl rfl ?_
    refine D_take (i := 4) [0, 1, 2, 3, 4, 5] rfl kr rfl (ld_blk 0 rfl rfl Try.underlying69 rfl rfl rfl) rfl rfl rfl ?_
    refine D_pure (i := 5) [0, 1, 2, 3, 4, 5] rfl kr rfl (pr_ixs1 (j := 1) (src_none (src_row 1 rfl)) sd Try.underlying69 kr rfl rfl rfl) (.inr rfl) rfl rfl ?_
    refine D_take (i := 6) [0, 1, 2, 3, 4, 5] rfl kr rfl (ld_src (m := 1) (src_row 1 rfl) (get64 sd) Try.underlying30 rfl rfl rfl) rfl rfl rfl ?_
    refine D_pure (i := 7) [0, 1, 2, 3, 4, 5] rfl kr rfl (pr_cv (zc_u64i (ath (wds b 4) 1)) Try.underlying30 Try.underlying2 rfl rfl) (.inr rfl) rfl rfl ?_
    refine D_take (i := 8) [0, 1, 2, 3, 4, 5] rfl kr rfl (ld_blk 0 rfl rfl Try.underlying69 rfl rfl rfl) rfl rfl rfl ?_
    refine D_pure (i := 9) [0, 1, 2, 3, 4, 5] rfl kr rfl (pr_ixs1 (j := 2) (src_none (src_row 1 rfl)) sd Try.underlying69 kr rfl rfl rfl) (.inr rfl) rfl rfl ?_
    refine D_take (i := 10) [0, 1, 2, 3, 4, 5] rfl kr rfl (ld_src (m := 2) (src_row 1 rfl) (get64 sd) Try.underlying30 rfl rfl rfl) rfl rfl rfl ?_
    refine D_pure (i := 11) [0, 1, 2, 3, 4, 5] rfl kr rfl (pr_cv (zc_u64i (ath (wds b 4) 2)) Try.underlying30 Try.underlying2 rfl rfl) (.inr rfl) rfl rfl ?_
    refine D_take (i := 12) [0, 1, 2, 3, 4, 5] rfl kr rfl (ld_blk 0 rfl rfl Try.underlying69 rfl rfl rfl) rfl rfl rfl ?_
    refine D_pure (i := 13) [0, 1, 2, 3, 4, 5] rfl kr rfl (pr_ixs1 (j := 3) (src_none (src_row 1 rfl)) sd Try.underlying69 kr rfl rfl rfl) (.inr rfl) rfl rfl ?_
    refine D_take (i := 14) [0, 1, 2, 3, 4, 5] rfl kr rfl (ld_src (m := 3) (src_row 1 rfl) (get64 sd) Try.underlying30 rfl rfl rfl) rfl rfl rfl ?_
    refine D_pure (i := 15) [0, 1, 2, 3, 4, 5] rfl kr rfl (pr_cv (zc_u64i (ath (wds b 4) 3)) Try.underlying30 Try.underlying2 rfl rfl) (.inr rfl) rfl rfl ?_
    refine D_pure (i := 16) [0, 1, 2, 3, 4, 5] rfl kr rfl (pr_build (qs := [(0, (.bool ((ath (wds b 4) 0) == 1#64))), (1, (.int .i64 (i64 (ath (wds b 4) 1)))), (2, (.int .i64 (i64 (ath (wds b 4) 2)))), (3, (.int .i64 (i64 (ath (wds b 4) 3))))]) (v := .agg [(.bool ((ath (wds b 4) 0) == 1#64)), (.int .i64 (i64 (ath (wds b 4) 1))), (.int .i64 (i64 (ath (wds b 4) 2))), (.int .i64 (i64 (ath (wds b 4) 3)))].toArray) (fun _ => by kernel_rfl) rfl rfl) (.inr rfl) rfl rfl ?_
    refine D_one 17 _ rfl kr rfl (op_alloc (z := .agg [(.bool false), (.int .i64 ((0 : Nat) : Int)), (.int .i64 ((0 : Nat) : Int)), (.int .i64 ((0 : Nat) : Int))].toArray) (zs := [(.bool false), (.int .i64 ((0 : Nat) : Int)), (.int .i64 ((0 : Nat) : Int)), (.int .i64 ((0 : Nat) : Int))]) kr rfl rfl rfl rfl (fun g14 => ?_))
    refine D_on [1, 2, 3, 4, 5, 6] rfl ?_
    refine D_one 18 _ rfl kr rfl (op_sto (n := 4) (vs := [(.bool ((ath (wds b 4) 0) == 1#64)), (.int .i64 (i64 (ath (wds b 4) 1))), (.int .i64 (i64 (ath (wds b 4) 2))), (.int .i64 (i64 (ath (wds b 4) 3)))]) 0 rfl rfl kr (by simp [Value.oneCell']) kr kr rfl rfl rfl rfl ?_)
    refine D_on [1, 2, 3, 4, 5, 6] rfl ?_
    refine D_done kr ?_
    refine T_seq ?_
    refine T_seq ?_
    refine T_regD [.blk g14 43 [(.bool ((ath (wds b 4) 0) == 1#64)), (.int .i64 (i64 (ath (wds b 4) 1))), (.int .i64 (i64 (ath (wds b 4) 2))), (.int .i64 (i64 (ath (wds b 4) 3)))], .blk g4 69 [(.slice A1 4 c1)], .row (.slice A1 4 c1) 30 1 4 ((wds b 4).map b64), .obj D (.deferred (some [])), .rd (some ⟨g1_7, 0, none⟩) 1 1 1 [(.slice A n c)], .blk g1 43 [(.bool false), (.int .i64 ((0 : Nat) : Int)), (.int .i64 ((0 : Nat) : Int)), (.int .i64 ((0 : Nat) : Int))], .rd A 1 n c (b.map b8)] 13 13 #[false, false, false, false, false, false, false, false, false, false, false, false, false] hF kr kr ?_
    refine D_take (i := 0) [0, 1, 2, 3, 4, 5, 6] rfl kr rfl (ld_blk 1 rfl rfl Try.underlying69 rfl rfl rfl) rfl rfl rfl ?_
    refine D_pure (i := 1) [0, 1, 2, 3, 4, 5, 6] rfl kr rfl (pr_ixs1 (j := 0) (src_none (src_row 2 rfl)) sd Try.underlying69 kr rfl rfl rfl) (.inr rfl) rfl rfl ?_
    refine D_take (i := 2) [0, 1, 2, 3, 4, 5, 6] rfl kr rfl (ld_src (m := 0) (src_row 2 rfl) (get64 sd) Try.underlying30 rfl rfl rfl) rfl rfl rfl ?_
    refine D_pure (i := 3) [0, 1, 2, 3, 4, 5, 6] rfl kr rfl (pr_cmp (bo := .gtr) (cm_lt64 (1#64) (ath (wds b 4) 0)) rfl rfl rfl rfl) (.inr rfl) rfl rfl ?_
    refine D_pure (i := 4) [0, 1, 2, 3, 4, 5, 6] rfl kr rfl (pr_move rfl rfl) (.inr rfl) rfl rfl ?_
    rcases Bool.eq_false_or_eq_true (decide (1#64 < (ath (wds b 4) 0))) with hc_15 | hc_15
    ·
     refine T_slot 45 (.bool (decide (1#64 < (ath (wds b 4) 0)))) (.bool true) rfl (congrArg _ hc_15) ?_
     refine T_slot 46 (.bool (decide (1#64 < (ath (wds b 4) 0)))) (.bool true) rfl (congrArg _ hc_15) ?_
     have hc_15 := of_decide_eq_true hc_15
     refine D_pass (i := 5) [0, 1, 2, 3, 4, 5, 6] rfl kr rfl (.inr rfl) rfl rfl ?_
     refine D_pass (i := 6) [0, 1, 2, 3, 4, 5, 6] rfl kr rfl (.inr rfl) rfl rfl ?_
     refine D_pass (i := 7) [0, 1, 2, 3, 4, 5, 6] rfl kr rfl (.inr rfl) rfl rfl ?_
     refine D_pass (i := 8) [0, 1, 2, 3, 4, 5, 6] rfl kr rfl (.inr rfl) rfl rfl ?_
     refine D_pass (i := 9) [0, 1, 2, 3, 4, 5, 6] rfl kr rfl (.inr rfl) rfl rfl ?_
     refine D_pass (i := 10) [0, 1, 2, 3, 4, 5, 6] rfl kr rfl (.inr rfl) rfl rfl ?_
     refine D_pass (i := 11) [0, 1, 2, 3, 4, 5, 6] rfl kr rfl (.inr rfl) rfl rfl ?_
     refine D_pure (i := 12) [0, 1, 2, 3, 4, 5, 6] rfl kr rfl (pr_pick_t rfl rfl rfl) (.inr rfl) rfl rfl ?_
     refine D_done kr ?_
     refine T_cond_t rfl ?_
     refine Tsr hF rfl ?_
     refine lo rfl (pr_build (qs := []) (v := .agg [(.bool false), (.int .i64 ((0 : Nat) : Int)), (.int .i64 ((0 : Nat) : Int)), (.int .i64 ((0 : Nat) : Int))].toArray) (fun _ => by kernel_rfl) rfl rfl) rfl rfl ?_
     refine L_op rfl (op_sto (n := 4) (vs := [(.bool false), (.int .i64 ((0 : Nat) : Int)), (.int .i64 ((0 : Nat) : Int)), (.int .i64 ((0 : Nat) : Int))]) 5 rfl rfl kr (by simp [Value.oneCell']) kr kr rfl rfl rfl rfl ?_)
     refine la rfl rfl rfl rfl rfl ?_
     refine L_nil ?_
     refine T_ret ?_
     refine T_as 0 _ (.blk g1 43 [(.bool ((rtk b).d)), (.int .i64 (i64 (rtk b).k)), (.int .i64 (i64 (rtk b).v)), (.int .i64 (i64 (rtk b).s))]) rfl (by first | rfl | (rw [rtk_no (by rw [rte_short (by omega)]; decide)]; rfl) | rw [rte_short (by omega)] | (rw [rtk_no (by rw [rte_long (by omega)]; decide)]; rfl) | rw [rte_long (by omega)] | (rw [rtk_no (by rw [rte_bad (by omega) (rb1 (by assumption))]; decide)]; rfl) | rw [rte_bad (by omega) (rb1 (by assumption))] | (rw [rtk_no (by rw [rte_bad (by omega) (rb2 (by assumption) (by assumption))]; decide)]; rfl) | rw [rte_bad (by omega) (rb2 (by assumption) (by assumption))] | (rw [rtk_no (by rw [rte_bad (by omega) (rb3 (by assumption) (by assumption))]; decide)]; rfl) | rw [rte_bad (by omega) (rb3 (by assumption) (by assumption))] | (rw [rtk_no (by rw [rte_bad (by omega) (rb4 (by assumption) (by assumption))]; decide)]; rfl) | rw [rte_bad (by omega) (rb4 (by assumption) (by assumption))] | (rw [rtk_no (by rw [rte_bad (by omega) (rb5 (by assumption) (by assumption))]; decide)]; rfl) | rw [rte_bad (by omega) (rb5 (by assumption) (by assumption))] | (rw [rtk_ok (rte_ok (by omega) (nb1 (by assumption) (by assumption) (by assumption)))]; rfl) | rw [rte_ok (by omega) (nb1 (by assumption) (by assumption) (by assumption))] | (rw [rtk_ok (rte_ok (by omega) (nb2 (by assumption) (by assumption)))]; rfl) | rw [rte_ok (by omega) (nb2 (by assumption) (by assumption))] | (rw [rtk_ok (rte_ok (by omega) (nb3 (by assumption) (by assumption) (by assumption) (by assumption)))]; rfl) | rw [rte_ok (by omega) (nb3 (by assumption) (by assumption) (by assumption) (by assumption))]) ?_
     refine T_slot 3 (.int .i64 ((4 : Nat) : Int)) (.int .i64 (((rte b) : Nat) : Int)) rfl (by first | rfl | (rw [rtk_no (by rw [rte_short (by omega)]; decide)]; rfl) | rw [rte_short (by omega)] | (rw [rtk_no (by rw [rte_long (by omega)]; decide)]; rfl) | rw [rte_long (by omega)] | (rw [rtk_no (by rw [rte_bad (by omega) (rb1 (by assumption))]; decide)]; rfl) | rw [rte_bad (by omega) (rb1 (by assumption))] | (rw [rtk_no (by rw [rte_bad (by omega) (rb2 (by assumption) (by assumption))]; decide)]; rfl) | rw [rte_bad (by omega) (rb2 (by assumption) (by assumption))] | (rw [rtk_no (by rw [rte_bad (by omega) (rb3 (by assumption) (by assumption))]; decide)]; rfl) | rw [rte_bad (by omega) (rb3 (by assumption) (by assumption))] | (rw [rtk_no (by rw [rte_bad (by omega) (rb4 (by assumption) (by assumption))]; decide)]; rfl) | rw [rte_bad (by omega) (rb4 (by assumption) (by assumption))] | (rw [rtk_no (by rw [rte_bad (by omega) (rb5 (by assumption) (by assumption))]; decide)]; rfl) | rw [rte_bad (by omega) (rb5 (by assumption) (by assumption))] | (rw [rtk_ok (rte_ok (by omega) (nb1 (by assumption) (by assumption) (by assumption)))]; rfl) | rw [rte_ok (by omega) (nb1 (by assumption) (by assumption) (by assumption))] | (rw [rtk_ok (rte_ok (by omega) (nb2 (by assumption) (by assumption)))]; rfl) | rw [rte_ok (by omega) (nb2 (by assumption) (by assumption))] | (rw [rtk_ok (rte_ok (by omega) (nb3 (by assumption) (by assumption) (by assumption) (by assumption)))]; rfl) | rw [rte_ok (by omega) (nb3 (by assumption) (by assumption) (by assumption) (by assumption))]) ?_
     exact T_finM 4 rfl () (by first | trivial | omega | (simp; done)) (resct 0 rfl rfl rfl Try.underlying43 rfl kr rfl) [] ⟨by decide, rfl⟩ rfl
    ·
     refine T_slot 45 (.bool (decide (1#64 < (ath (wds b 4) 0)))) (.bool false) rfl (congrArg _ hc_15) ?_
     refine T_slot 46 (.bool (decide (1#64 < (ath (wds b 4) 0)))) (.bool false) rfl (congrArg _ hc_15) ?_
     have hc_15 := of_decide_eq_false hc_15
     refine D_pure (i := 5) [0, 1, 2, 3, 4, 5, 6] rfl kr rfl (pr_fa (m := 0) (m' := 0) (z := 0) (by rfl) Try.underlying43 rfl kr rfl rfl) (.inr rfl) rfl rfl ?_
     refine D_take (i := 6) [0, 1, 2, 3, 4, 5, 6] rfl kr rfl (ld_blk 0 rfl rfl Try.underlying4 rfl rfl rfl) rfl rfl rfl ?_
     refine D_pure (i := 7) [0, 1, 2, 3, 4, 5, 6] rfl kr rfl (pr_move rfl rfl) (.inr rfl) rfl rfl ?_
     rcases Bool.eq_false_or_eq_true ((ath (wds b 4) 0) == 1#64) with hc_16 | hc_16
     ·
      refine T_slot 48 (.bool ((ath (wds b 4) 0) == 1#64)) (.bool true) rfl (congrArg _ hc_16) ?_
      refine T_slot 49 (.bool ((ath (wds b 4) 0) == 1#64)) (.bool true) rfl (congrArg _ hc_16) ?_
      have hc_16 : (ath (wds b 4) 0) = 1#64 := by simpa using hc_16
      refine D_take (i := 8) [0, 1, 2, 3, 4, 5, 6] rfl kr rfl (ld_agg (ds := [(.bool ((ath (wds b 4) 0) == 1#64)), (.int .i64 (i64 (ath (wds b 4) 1))), (.int .i64 (i64 (ath (wds b 4) 2))), (.int .i64 (i64 (ath (wds b 4) 3)))]) 0 rfl agg_all Try.underlying43 rfl kr rfl rfl) rfl rfl rfl ?_
      refine D_one 9 _ rfl kr rfl (op_cn (fun w hw => dead_f  w (hok_nil w) ) (enters_of Try.func36 kr rfl) rfl rfl rfl rfl rfl (fun t17 q18 => ?_))
      refine D_on [0, 1, 2, 3, 4, 5, 6] rfl ?_
      refine D_pure (i := 10) [0, 1, 2, 3, 4, 5, 6] rfl kr rfl (pr_eqs (bo := .neq) (c := ((((ath (wds b 4) 0) == 1#64) == true) && (((i64 (ath (wds b 4) 1)) == ((0 : Nat) : Int)) && (((i64 (ath (wds b 4) 2)) == ((0 : Nat) : Int)) && (((i64 (ath (wds b 4) 3)) == ((0 : Nat) : Int)) && true))))) (r := !((((ath (wds b 4) 0) == 1#64) == true) && (((i64 (ath (wds b 4) 1)) == ((0 : Nat) : Int)) && (((i64 (ath (wds b 4) 2)) == ((0 : Nat) : Int)) && (((i64 (ath (wds b 4) 3)) == ((0 : Nat) : Int)) && true))))) (fun _ _ => eqs Try.underlying43 kr (eqf rfl (part1 Try.underlying4 rfl rfl) (part1 Try.underlying4 rfl rfl) (eqv_b Try.underlying4) (eqf rfl (part1 Try.underlying2 rfl rfl) (part1 Try.underlying2 rfl rfl) (eqv_i (a := (i64 (ath (wds b 4) 1))) (b := ((0 : Nat) : Int)) Try.underlying2) (eqf rfl (part1 Try.underlying2 rfl rfl) (part1 Try.underlying2 rfl rfl) (eqv_i (a := (i64 (ath (wds b 4) 2))) (b := ((0 : Nat) : Int)) Try.underlying2) (eqf rfl (part1 Try.underlying2 rfl rfl) (part1 Try.underlying2 rfl rfl) (eqv_i (a := (i64 (ath (wds b 4) 3))) (b := ((0 : Nat) : Int)) Try.underlying2) eqf_nil))))) kr rfl rfl rfl rfl rfl) (.inr rfl) rfl rfl ?_
      refine D_pure (i := 11) [0, 1, 2, 3, 4, 5, 6] rfl kr rfl (pr_pick_t rfl rfl rfl) (.inr rfl) rfl rfl ?_
      refine D_pure (i := 12) [0, 1, 2, 3, 4, 5, 6] rfl kr rfl (pr_pick_f rfl rfl rfl) (.inr rfl) rfl rfl ?_
      refine D_done kr ?_
      refine T_cond (!((((ath (wds b 4) 0) == 1#64) == true) && (((i64 (ath (wds b 4) 1)) == ((0 : Nat) : Int)) && (((i64 (ath (wds b 4) 2)) == ((0 : Nat) : Int)) && (((i64 (ath (wds b 4) 3)) == ((0 : Nat) : Int)) && true))))) rfl (fun hc_19 => ?_) (fun hc_19 => ?_)
      ·
       refine Tsr hF rfl ?_
       refine lo rfl (pr_build (qs := []) (v := .agg [(.bool false), (.int .i64 ((0 : Nat) : Int)), (.int .i64 ((0 : Nat) : Int)), (.int .i64 ((0 : Nat) : Int))].toArray) (fun _ => by kernel_rfl) rfl rfl) rfl rfl ?_
       refine L_op rfl (op_sto (n := 4) (vs := [(.bool false), (.int .i64 ((0 : Nat) : Int)), (.int .i64 ((0 : Nat) : Int)), (.int .i64 ((0 : Nat) : Int))]) 5 rfl rfl kr (by simp [Value.oneCell']) kr kr rfl rfl rfl rfl ?_)
       refine la rfl rfl rfl rfl rfl ?_
       refine L_nil ?_
       refine T_ret ?_
       refine T_as 0 _ (.blk g1 43 [(.bool ((rtk b).d)), (.int .i64 (i64 (rtk b).k)), (.int .i64 (i64 (rtk b).v)), (.int .i64 (i64 (rtk b).s))]) rfl (by first | rfl | (rw [rtk_no (by rw [rte_short (by omega)]; decide)]; rfl) | rw [rte_short (by omega)] | (rw [rtk_no (by rw [rte_long (by omega)]; decide)]; rfl) | rw [rte_long (by omega)] | (rw [rtk_no (by rw [rte_bad (by omega) (rb1 (by assumption))]; decide)]; rfl) | rw [rte_bad (by omega) (rb1 (by assumption))] | (rw [rtk_no (by rw [rte_bad (by omega) (rb2 (by assumption) (by assumption))]; decide)]; rfl) | rw [rte_bad (by omega) (rb2 (by assumption) (by assumption))] | (rw [rtk_no (by rw [rte_bad (by omega) (rb3 (by assumption) (by assumption))]; decide)]; rfl) | rw [rte_bad (by omega) (rb3 (by assumption) (by assumption))] | (rw [rtk_no (by rw [rte_bad (by omega) (rb4 (by assumption) (by assumption))]; decide)]; rfl) | rw [rte_bad (by omega) (rb4 (by assumption) (by assumption))] | (rw [rtk_no (by rw [rte_bad (by omega) (rb5 (by assumption) (by assumption))]; decide)]; rfl) | rw [rte_bad (by omega) (rb5 (by assumption) (by assumption))] | (rw [rtk_ok (rte_ok (by omega) (nb1 (by assumption) (by assumption) (by assumption)))]; rfl) | rw [rte_ok (by omega) (nb1 (by assumption) (by assumption) (by assumption))] | (rw [rtk_ok (rte_ok (by omega) (nb2 (by assumption) (by assumption)))]; rfl) | rw [rte_ok (by omega) (nb2 (by assumption) (by assumption))] | (rw [rtk_ok (rte_ok (by omega) (nb3 (by assumption) (by assumption) (by assumption) (by assumption)))]; rfl) | rw [rte_ok (by omega) (nb3 (by assumption) (by assumption) (by assumption) (by assumption))]) ?_
       refine T_slot 3 (.int .i64 ((4 : Nat) : Int)) (.int .i64 (((rte b) : Nat) : Int)) rfl (by first | rfl | (rw [rtk_no (by rw [rte_short (by omega)]; decide)]; rfl) | rw [rte_short (by omega)] | (rw [rtk_no (by rw [rte_long (by omega)]; decide)]; rfl) | rw [rte_long (by omega)] | (rw [rtk_no (by rw [rte_bad (by omega) (rb1 (by assumption))]; decide)]; rfl) | rw [rte_bad (by omega) (rb1 (by assumption))] | (rw [rtk_no (by rw [rte_bad (by omega) (rb2 (by assumption) (by assumption))]; decide)]; rfl) | rw [rte_bad (by omega) (rb2 (by assumption) (by assumption))] | (rw [rtk_no (by rw [rte_bad (by omega) (rb3 (by assumption) (by assumption))]; decide)]; rfl) | rw [rte_bad (by omega) (rb3 (by assumption) (by assumption))] | (rw [rtk_no (by rw [rte_bad (by omega) (rb4 (by assumption) (by assumption))]; decide)]; rfl) | rw [rte_bad (by omega) (rb4 (by assumption) (by assumption))] | (rw [rtk_no (by rw [rte_bad (by omega) (rb5 (by assumption) (by assumption))]; decide)]; rfl) | rw [rte_bad (by omega) (rb5 (by assumption) (by assumption))] | (rw [rtk_ok (rte_ok (by omega) (nb1 (by assumption) (by assumption) (by assumption)))]; rfl) | rw [rte_ok (by omega) (nb1 (by assumption) (by assumption) (by assumption))] | (rw [rtk_ok (rte_ok (by omega) (nb2 (by assumption) (by assumption)))]; rfl) | rw [rte_ok (by omega) (nb2 (by assumption) (by assumption))] | (rw [rtk_ok (rte_ok (by omega) (nb3 (by assumption) (by assumption) (by assumption) (by assumption)))]; rfl) | rw [rte_ok (by omega) (nb3 (by assumption) (by assumption) (by assumption) (by assumption))]) ?_
       exact T_finM 4 rfl () (by first | trivial | omega | (simp; done)) (resct 0 rfl rfl rfl Try.underlying43 rfl kr rfl) [] ⟨by decide, rfl⟩ rfl
      ·
       refine T_skip ?_
       refine Tsr hF rfl ?_
       refine lq rfl (ld_agg (ds := [(.bool ((ath (wds b 4) 0) == 1#64)), (.int .i64 (i64 (ath (wds b 4) 1))), (.int .i64 (i64 (ath (wds b 4) 2))), (.int .i64 (i64 (ath (wds b 4) 3)))]) 0 rfl agg_all Try.underlying43 rfl kr rfl rfl) rfl rfl ?_
       refine L_op rfl (op_sto (n := 4) (vs := [(.bool ((ath (wds b 4) 0) == 1#64)), (.int .i64 (i64 (ath (wds b 4) 1))), (.int .i64 (i64 (ath (wds b 4) 2))), (.int .i64 (i64 (ath (wds b 4) 3)))]) 5 rfl rfl kr (by simp [Value.oneCell']) kr kr rfl rfl rfl rfl ?_)
       refine la rfl rfl rfl rfl rfl ?_
       refine L_nil ?_
       refine T_ret ?_
       refine T_as 0 _ (.blk g1 43 [(.bool ((rtk b).d)), (.int .i64 (i64 (rtk b).k)), (.int .i64 (i64 (rtk b).v)), (.int .i64 (i64 (rtk b).s))]) rfl (by first | rfl | (rw [rtk_no (by rw [rte_short (by omega)]; decide)]; rfl) | rw [rte_short (by omega)] | (rw [rtk_no (by rw [rte_long (by omega)]; decide)]; rfl) | rw [rte_long (by omega)] | (rw [rtk_no (by rw [rte_bad (by omega) (rb1 (by assumption))]; decide)]; rfl) | rw [rte_bad (by omega) (rb1 (by assumption))] | (rw [rtk_no (by rw [rte_bad (by omega) (rb2 (by assumption) (by assumption))]; decide)]; rfl) | rw [rte_bad (by omega) (rb2 (by assumption) (by assumption))] | (rw [rtk_no (by rw [rte_bad (by omega) (rb3 (by assumption) (by assumption))]; decide)]; rfl) | rw [rte_bad (by omega) (rb3 (by assumption) (by assumption))] | (rw [rtk_no (by rw [rte_bad (by omega) (rb4 (by assumption) (by assumption))]; decide)]; rfl) | rw [rte_bad (by omega) (rb4 (by assumption) (by assumption))] | (rw [rtk_no (by rw [rte_bad (by omega) (rb5 (by assumption) (by assumption))]; decide)]; rfl) | rw [rte_bad (by omega) (rb5 (by assumption) (by assumption))] | (rw [rtk_ok (rte_ok (by omega) (nb1 (by assumption) (by assumption) (by assumption)))]; rfl) | rw [rte_ok (by omega) (nb1 (by assumption) (by assumption) (by assumption))] | (rw [rtk_ok (rte_ok (by omega) (nb2 (by assumption) (by assumption)))]; rfl) | rw [rte_ok (by omega) (nb2 (by assumption) (by assumption))] | (rw [rtk_ok (rte_ok (by omega) (nb3 (by assumption) (by assumption) (by assumption) (by assumption)))]; rfl) | rw [rte_ok (by omega) (nb3 (by assumption) (by assumption) (by assumption) (by assumption))]) ?_
       refine T_slot 3 (.int .i64 ((0 : Nat) : Int)) (.int .i64 (((rte b) : Nat) : Int)) rfl (by first | rfl | (rw [rtk_no (by rw [rte_short (by omega)]; decide)]; rfl) | rw [rte_short (by omega)] | (rw [rtk_no (by rw [rte_long (by omega)]; decide)]; rfl) | rw [rte_long (by omega)] | (rw [rtk_no (by rw [rte_bad (by omega) (rb1 (by assumption))]; decide)]; rfl) | rw [rte_bad (by omega) (rb1 (by assumption))] | (rw [rtk_no (by rw [rte_bad (by omega) (rb2 (by assumption) (by assumption))]; decide)]; rfl) | rw [rte_bad (by omega) (rb2 (by assumption) (by assumption))] | (rw [rtk_no (by rw [rte_bad (by omega) (rb3 (by assumption) (by assumption))]; decide)]; rfl) | rw [rte_bad (by omega) (rb3 (by assumption) (by assumption))] | (rw [rtk_no (by rw [rte_bad (by omega) (rb4 (by assumption) (by assumption))]; decide)]; rfl) | rw [rte_bad (by omega) (rb4 (by assumption) (by assumption))] | (rw [rtk_no (by rw [rte_bad (by omega) (rb5 (by assumption) (by assumption))]; decide)]; rfl) | rw [rte_bad (by omega) (rb5 (by assumption) (by assumption))] | (rw [rtk_ok (rte_ok (by omega) (nb1 (by assumption) (by assumption) (by assumption)))]; rfl) | rw [rte_ok (by omega) (nb1 (by assumption) (by assumption) (by assumption))] | (rw [rtk_ok (rte_ok (by omega) (nb2 (by assumption) (by assumption)))]; rfl) | rw [rte_ok (by omega) (nb2 (by assumption) (by assumption))] | (rw [rtk_ok (rte_ok (by omega) (nb3 (by assumption) (by assumption) (by assumption) (by assumption)))]; rfl) | rw [rte_ok (by omega) (nb3 (by assumption) (by assumption) (by assumption) (by assumption))]) ?_
       exact T_finM 4 rfl () (by first | trivial | omega | (simp; done)) (resct 0 rfl rfl rfl Try.underlying43 rfl kr rfl) [] ⟨by decide, rfl⟩ rfl
     ·
      refine T_slot 48 (.bool ((ath (wds b 4) 0) == 1#64)) (.bool false) rfl (congrArg _ hc_16) ?_
      refine T_slot 49 (.bool ((ath (wds b 4) 0) == 1#64)) (.bool false) rfl (congrArg _ hc_16) ?_
      have hc_16 : ¬ (ath (wds b 4) 0) = 1#64 := by simpa using hc_16
      refine D_pass (i := 8) [0, 1, 2, 3, 4, 5, 6] rfl kr rfl (.inr rfl) rfl rfl ?_
      refine D_pass (i := 9) [0, 1, 2, 3, 4, 5, 6] rfl kr rfl (.inr rfl) rfl rfl ?_
      refine D_pass (i := 10) [0, 1, 2, 3, 4, 5, 6] rfl kr rfl (.inr rfl) rfl rfl ?_
      refine D_pure (i := 11) [0, 1, 2, 3, 4, 5, 6] rfl kr rfl (pr_pick_f rfl rfl rfl) (.inr rfl) rfl rfl ?_
      refine D_pure (i := 12) [0, 1, 2, 3, 4, 5, 6] rfl kr rfl (pr_pick_f rfl rfl rfl) (.inr rfl) rfl rfl ?_
      refine D_done kr ?_
      refine T_cond_f rfl ?_
      refine T_skip ?_
      refine Tsr hF rfl ?_
      refine lq rfl (ld_agg (ds := [(.bool ((ath (wds b 4) 0) == 1#64)), (.int .i64 (i64 (ath (wds b 4) 1))), (.int .i64 (i64 (ath (wds b 4) 2))), (.int .i64 (i64 (ath (wds b 4) 3)))]) 0 rfl agg_all Try.underlying43 rfl kr rfl rfl) rfl rfl ?_
      refine L_op rfl (op_sto (n := 4) (vs := [(.bool ((ath (wds b 4) 0) == 1#64)), (.int .i64 (i64 (ath (wds b 4) 1))), (.int .i64 (i64 (ath (wds b 4) 2))), (.int .i64 (i64 (ath (wds b 4) 3)))]) 5 rfl rfl kr (by simp [Value.oneCell']) kr kr rfl rfl rfl rfl ?_)
      refine la rfl rfl rfl rfl rfl ?_
      refine L_nil ?_
      refine T_ret ?_
      refine T_as 0 _ (.blk g1 43 [(.bool ((rtk b).d)), (.int .i64 (i64 (rtk b).k)), (.int .i64 (i64 (rtk b).v)), (.int .i64 (i64 (rtk b).s))]) rfl (by first | rfl | (rw [rtk_no (by rw [rte_short (by omega)]; decide)]; rfl) | rw [rte_short (by omega)] | (rw [rtk_no (by rw [rte_long (by omega)]; decide)]; rfl) | rw [rte_long (by omega)] | (rw [rtk_no (by rw [rte_bad (by omega) (rb1 (by assumption))]; decide)]; rfl) | rw [rte_bad (by omega) (rb1 (by assumption))] | (rw [rtk_no (by rw [rte_bad (by omega) (rb2 (by assumption) (by assumption))]; decide)]; rfl) | rw [rte_bad (by omega) (rb2 (by assumption) (by assumption))] | (rw [rtk_no (by rw [rte_bad (by omega) (rb3 (by assumption) (by assumption))]; decide)]; rfl) | rw [rte_bad (by omega) (rb3 (by assumption) (by assumption))] | (rw [rtk_no (by rw [rte_bad (by omega) (rb4 (by assumption) (by assumption))]; decide)]; rfl) | rw [rte_bad (by omega) (rb4 (by assumption) (by assumption))] | (rw [rtk_no (by rw [rte_bad (by omega) (rb5 (by assumption) (by assumption))]; decide)]; rfl) | rw [rte_bad (by omega) (rb5 (by assumption) (by assumption))] | (rw [rtk_ok (rte_ok (by omega) (nb1 (by assumption) (by assumption) (by assumption)))]; rfl) | rw [rte_ok (by omega) (nb1 (by assumption) (by assumption) (by assumption))] | (rw [rtk_ok (rte_ok (by omega) (nb2 (by assumption) (by assumption)))]; rfl) | rw [rte_ok (by omega) (nb2 (by assumption) (by assumption))] | (rw [rtk_ok (rte_ok (by omega) (nb3 (by assumption) (by assumption) (by assumption) (by assumption)))]; rfl) | rw [rte_ok (by omega) (nb3 (by assumption) (by assumption) (by assumption) (by assumption))]) ?_
      refine T_slot 3 (.int .i64 ((0 : Nat) : Int)) (.int .i64 (((rte b) : Nat) : Int)) rfl (by first | rfl | (rw [rtk_no (by rw [rte_short (by omega)]; decide)]; rfl) | rw [rte_short (by omega)] | (rw [rtk_no (by rw [rte_long (by omega)]; decide)]; rfl) | rw [rte_long (by omega)] | (rw [rtk_no (by rw [rte_bad (by omega) (rb1 (by assumption))]; decide)]; rfl) | rw [rte_bad (by omega) (rb1 (by assumption))] | (rw [rtk_no (by rw [rte_bad (by omega) (rb2 (by assumption) (by assumption))]; decide)]; rfl) | rw [rte_bad (by omega) (rb2 (by assumption) (by assumption))] | (rw [rtk_no (by rw [rte_bad (by omega) (rb3 (by assumption) (by assumption))]; decide)]; rfl) | rw [rte_bad (by omega) (rb3 (by assumption) (by assumption))] | (rw [rtk_no (by rw [rte_bad (by omega) (rb4 (by assumption) (by assumption))]; decide)]; rfl) | rw [rte_bad (by omega) (rb4 (by assumption) (by assumption))] | (rw [rtk_no (by rw [rte_bad (by omega) (rb5 (by assumption) (by assumption))]; decide)]; rfl) | rw [rte_bad (by omega) (rb5 (by assumption) (by assumption))] | (rw [rtk_ok (rte_ok (by omega) (nb1 (by assumption) (by assumption) (by assumption)))]; rfl) | rw [rte_ok (by omega) (nb1 (by assumption) (by assumption) (by assumption))] | (rw [rtk_ok (rte_ok (by omega) (nb2 (by assumption) (by assumption)))]; rfl) | rw [rte_ok (by omega) (nb2 (by assumption) (by assumption))] | (rw [rtk_ok (rte_ok (by omega) (nb3 (by assumption) (by assumption) (by assumption) (by assumption)))]; rfl) | rw [rte_ok (by omega) (nb3 (by assumption) (by assumption) (by assumption) (by assumption))]) ?_
      exact T_finM 4 rfl () (by first | trivial | omega | (simp; done)) (resct 0 rfl rfl rfl Try.underlying43 rfl kr rfl) [] ⟨by decide, rfl⟩ rfl
   ·
    exact fun D t hq => hq.elim
set_option maxHeartbeats 4000000 in
theorem rrtake_f (b : List (BitVec 8)) (A : Option Addr) (n : Nat) (c : Nat) (w : World) (hO : HOK [.rd A 1 n c (b.map b8)] w) (hb : b.length = n) (hn : n ≤ 1000000) : Calls Try.prog 46 [(.slice A n c)].toArray w (Ret (T := Unit) [] w (fun _ => True) (fun _ => (.tuple [(.agg [(.bool ((rtk b).d)), (.int .i64 (i64 (rtk b).k)), (.int .i64 (i64 (rtk b).v)), (.int .i64 (i64 (rtk b).s))].toArray), (.int .i64 (((rte b) : Nat) : Int))].toArray)) (fun _ => [])) := by
 have hF : Wid Fence.wide := wid_wide
 refine enter (c := _) Try.func46 rfl [] _ [.rd A 1 n c (b.map b8)] (by rw [Try.ntmps46]; rfl) (own_rds hO rfl) ?_
 rw [Try.ntmps46]
 refine T_re [(0, (.slice A n c))] (sc rfl sn) ?_
 refine T_he [0] [.rd A 1 n c (b.map b8)] ⟨by decide, rfl⟩ ?_
 refine Tsr hF rfl ?_
 refine L_op rfl (op_alloc (z := .agg [(.bool false), (.int .i64 ((0 : Nat) : Int)), (.int .i64 ((0 : Nat) : Int)), (.int .i64 ((0 : Nat) : Int))].toArray) (zs := [(.bool false), (.int .i64 ((0 : Nat) : Int)), (.int .i64 ((0 : Nat) : Int)), (.int .i64 ((0 : Nat) : Int))]) kr rfl rfl rfl rfl (fun g1 => ?_))
 refine la rfl rfl rfl rfl rfl ?_
 refine L_nil ?_
 refine T_seq ?_
 refine Tsr hF rfl ?_
 refine lm rfl rfl rfl rfl rfl ?_
 refine lo rfl (pr_len_sl Try.underlying23 rfl rfl) rfl rfl ?_
 refine lo rfl (pr_cmp (bo := .lss) (nc_lt (a := n) (b := 32)) rfl rfl rfl rfl) rfl rfl ?_
 refine L_nil ?_
 refine T_cond (decide (n < 32)) rfl (fun hc_2 => ?_) (fun hc_2 => ?_)
 ·
  have hc_2 := of_decide_eq_true hc_2
  refine Tsr hF rfl ?_
  refine lo rfl (pr_build (qs := []) (v := .agg [(.bool false), (.int .i64 ((0 : Nat) : Int)), (.int .i64 ((0 : Nat) : Int)), (.int .i64 ((0 : Nat) : Int))].toArray) (fun _ => by kernel_rfl) rfl rfl) rfl rfl ?_
  refine L_op rfl (op_sto (n := 4) (vs := [(.bool false), (.int .i64 ((0 : Nat) : Int)), (.int .i64 ((0 : Nat) : Int)), (.int .i64 ((0 : Nat) : Int))]) 0 rfl rfl kr (by simp [Value.oneCell']) kr kr rfl rfl rfl rfl ?_)
  refine la rfl rfl rfl rfl rfl ?_
  refine L_nil ?_
  refine T_ret ?_
  refine T_as 0 _ (.blk g1 43 [(.bool ((rtk b).d)), (.int .i64 (i64 (rtk b).k)), (.int .i64 (i64 (rtk b).v)), (.int .i64 (i64 (rtk b).s))]) rfl (by first | rfl | (rw [rtk_no (by rw [rte_short (by omega)]; decide)]; rfl) | rw [rte_short (by omega)] | (rw [rtk_no (by rw [rte_long (by omega)]; decide)]; rfl) | rw [rte_long (by omega)] | (rw [rtk_no (by rw [rte_bad (by omega) (rb1 (by assumption))]; decide)]; rfl) | rw [rte_bad (by omega) (rb1 (by assumption))] | (rw [rtk_no (by rw [rte_bad (by omega) (rb2 (by assumption) (by assumption))]; decide)]; rfl) | rw [rte_bad (by omega) (rb2 (by assumption) (by assumption))] | (rw [rtk_no (by rw [rte_bad (by omega) (rb3 (by assumption) (by assumption))]; decide)]; rfl) | rw [rte_bad (by omega) (rb3 (by assumption) (by assumption))] | (rw [rtk_no (by rw [rte_bad (by omega) (rb4 (by assumption) (by assumption))]; decide)]; rfl) | rw [rte_bad (by omega) (rb4 (by assumption) (by assumption))] | (rw [rtk_no (by rw [rte_bad (by omega) (rb5 (by assumption) (by assumption))]; decide)]; rfl) | rw [rte_bad (by omega) (rb5 (by assumption) (by assumption))] | (rw [rtk_ok (rte_ok (by omega) (nb1 (by assumption) (by assumption) (by assumption)))]; rfl) | rw [rte_ok (by omega) (nb1 (by assumption) (by assumption) (by assumption))] | (rw [rtk_ok (rte_ok (by omega) (nb2 (by assumption) (by assumption)))]; rfl) | rw [rte_ok (by omega) (nb2 (by assumption) (by assumption))] | (rw [rtk_ok (rte_ok (by omega) (nb3 (by assumption) (by assumption) (by assumption) (by assumption)))]; rfl) | rw [rte_ok (by omega) (nb3 (by assumption) (by assumption) (by assumption) (by assumption))]) ?_
  refine T_slot 3 (.int .i64 ((3 : Nat) : Int)) (.int .i64 (((rte b) : Nat) : Int)) rfl (by first | rfl | (rw [rtk_no (by rw [rte_short (by omega)]; decide)]; rfl) | rw [rte_short (by omega)] | (rw [rtk_no (by rw [rte_long (by omega)]; decide)]; rfl) | rw [rte_long (by omega)] | (rw [rtk_no (by rw [rte_bad (by omega) (rb1 (by assumption))]; decide)]; rfl) | rw [rte_bad (by omega) (rb1 (by assumption))] | (rw [rtk_no (by rw [rte_bad (by omega) (rb2 (by assumption) (by assumption))]; decide)]; rfl) | rw [rte_bad (by omega) (rb2 (by assumption) (by assumption))] | (rw [rtk_no (by rw [rte_bad (by omega) (rb3 (by assumption) (by assumption))]; decide)]; rfl) | rw [rte_bad (by omega) (rb3 (by assumption) (by assumption))] | (rw [rtk_no (by rw [rte_bad (by omega) (rb4 (by assumption) (by assumption))]; decide)]; rfl) | rw [rte_bad (by omega) (rb4 (by assumption) (by assumption))] | (rw [rtk_no (by rw [rte_bad (by omega) (rb5 (by assumption) (by assumption))]; decide)]; rfl) | rw [rte_bad (by omega) (rb5 (by assumption) (by assumption))] | (rw [rtk_ok (rte_ok (by omega) (nb1 (by assumption) (by assumption) (by assumption)))]; rfl) | rw [rte_ok (by omega) (nb1 (by assumption) (by assumption) (by assumption))] | (rw [rtk_ok (rte_ok (by omega) (nb2 (by assumption) (by assumption)))]; rfl) | rw [rte_ok (by omega) (nb2 (by assumption) (by assumption))] | (rw [rtk_ok (rte_ok (by omega) (nb3 (by assumption) (by assumption) (by assumption) (by assumption)))]; rfl) | rw [rte_ok (by omega) (nb3 (by assumption) (by assumption) (by assumption) (by assumption))]) ?_
  exact T_fin () (by first | trivial | omega | (simp; done)) (resct 0 rfl rfl rfl Try.underlying43 rfl kr rfl) [] ⟨by decide, rfl⟩ rfl
 ·
  have hc_2 := of_decide_eq_false hc_2
  refine T_skip ?_
  refine T_seq ?_
  refine Tsr hF rfl ?_
  refine lm rfl rfl rfl rfl rfl ?_
  refine lo rfl (pr_len_sl Try.underlying23 rfl rfl) rfl rfl ?_
  refine lo rfl (pr_cmp (bo := .gtr) (nc_lt (a := 32) (b := n)) rfl rfl rfl rfl) rfl rfl ?_
  refine L_nil ?_
  refine T_cond (decide (32 < n)) rfl (fun hc_3 => ?_) (fun hc_3 => ?_)
  ·
   have hc_3 := of_decide_eq_true hc_3
   refine Tsr hF rfl ?_
   refine lo rfl (pr_build (qs := []) (v := .agg [(.bool false), (.int .i64 ((0 : Nat) : Int)), (.int .i64 ((0 : Nat) : Int)), (.int .i64 ((0 : Nat) : Int))].toArray) (fun _ => by kernel_rfl) rfl rfl) rfl rfl ?_
   refine L_op rfl (op_sto (n := 4) (vs := [(.bool false), (.int .i64 ((0 : Nat) : Int)), (.int .i64 ((0 : Nat) : Int)), (.int .i64 ((0 : Nat) : Int))]) 0 rfl rfl kr (by simp [Value.oneCell']) kr kr rfl rfl rfl rfl ?_)
   refine la rfl rfl rfl rfl rfl ?_
   refine L_nil ?_
   refine T_ret ?_
   refine T_as 0 _ (.blk g1 43 [(.bool ((rtk b).d)), (.int .i64 (i64 (rtk b).k)), (.int .i64 (i64 (rtk b).v)), (.int .i64 (i64 (rtk b).s))]) rfl (by first | rfl | (rw [rtk_no (by rw [rte_short (by omega)]; decide)]; rfl) | rw [rte_short (by omega)] | (rw [rtk_no (by rw [rte_long (by omega)]; decide)]; rfl) | rw [rte_long (by omega)] | (rw [rtk_no (by rw [rte_bad (by omega) (rb1 (by assumption))]; decide)]; rfl) | rw [rte_bad (by omega) (rb1 (by assumption))] | (rw [rtk_no (by rw [rte_bad (by omega) (rb2 (by assumption) (by assumption))]; decide)]; rfl) | rw [rte_bad (by omega) (rb2 (by assumption) (by assumption))] | (rw [rtk_no (by rw [rte_bad (by omega) (rb3 (by assumption) (by assumption))]; decide)]; rfl) | rw [rte_bad (by omega) (rb3 (by assumption) (by assumption))] | (rw [rtk_no (by rw [rte_bad (by omega) (rb4 (by assumption) (by assumption))]; decide)]; rfl) | rw [rte_bad (by omega) (rb4 (by assumption) (by assumption))] | (rw [rtk_no (by rw [rte_bad (by omega) (rb5 (by assumption) (by assumption))]; decide)]; rfl) | rw [rte_bad (by omega) (rb5 (by assumption) (by assumption))] | (rw [rtk_ok (rte_ok (by omega) (nb1 (by assumption) (by assumption) (by assumption)))]; rfl) | rw [rte_ok (by omega) (nb1 (by assumption) (by assumption) (by assumption))] | (rw [rtk_ok (rte_ok (by omega) (nb2 (by assumption) (by assumption)))]; rfl) | rw [rte_ok (by omega) (nb2 (by assumption) (by assumption))] | (rw [rtk_ok (rte_ok (by omega) (nb3 (by assumption) (by assumption) (by assumption) (by assumption)))]; rfl) | rw [rte_ok (by omega) (nb3 (by assumption) (by assumption) (by assumption) (by assumption))]) ?_
   refine T_slot 3 (.int .i64 ((4 : Nat) : Int)) (.int .i64 (((rte b) : Nat) : Int)) rfl (by first | rfl | (rw [rtk_no (by rw [rte_short (by omega)]; decide)]; rfl) | rw [rte_short (by omega)] | (rw [rtk_no (by rw [rte_long (by omega)]; decide)]; rfl) | rw [rte_long (by omega)] | (rw [rtk_no (by rw [rte_bad (by omega) (rb1 (by assumption))]; decide)]; rfl) | rw [rte_bad (by omega) (rb1 (by assumption))] | (rw [rtk_no (by rw [rte_bad (by omega) (rb2 (by assumption) (by assumption))]; decide)]; rfl) | rw [rte_bad (by omega) (rb2 (by assumption) (by assumption))] | (rw [rtk_no (by rw [rte_bad (by omega) (rb3 (by assumption) (by assumption))]; decide)]; rfl) | rw [rte_bad (by omega) (rb3 (by assumption) (by assumption))] | (rw [rtk_no (by rw [rte_bad (by omega) (rb4 (by assumption) (by assumption))]; decide)]; rfl) | rw [rte_bad (by omega) (rb4 (by assumption) (by assumption))] | (rw [rtk_no (by rw [rte_bad (by omega) (rb5 (by assumption) (by assumption))]; decide)]; rfl) | rw [rte_bad (by omega) (rb5 (by assumption) (by assumption))] | (rw [rtk_ok (rte_ok (by omega) (nb1 (by assumption) (by assumption) (by assumption)))]; rfl) | rw [rte_ok (by omega) (nb1 (by assumption) (by assumption) (by assumption))] | (rw [rtk_ok (rte_ok (by omega) (nb2 (by assumption) (by assumption)))]; rfl) | rw [rte_ok (by omega) (nb2 (by assumption) (by assumption))] | (rw [rtk_ok (rte_ok (by omega) (nb3 (by assumption) (by assumption) (by assumption) (by assumption)))]; rfl) | rw [rte_ok (by omega) (nb3 (by assumption) (by assumption) (by assumption) (by assumption))]) ?_
   exact T_fin () (by first | trivial | omega | (simp; done)) (resct 0 rfl rfl rfl Try.underlying43 rfl kr rfl) [] ⟨by decide, rfl⟩ rfl
  ·
   have hc_3 := of_decide_eq_false hc_3
   refine T_skip ?_
   refine T_seq ?_
   refine T_regD [.blk g1 43 [(.bool false), (.int .i64 ((0 : Nat) : Int)), (.int .i64 ((0 : Nat) : Int)), (.int .i64 ((0 : Nat) : Int))], .rd A 1 n c (b.map b8)] 8 8 #[false, false, false, false, false, false, false, false] hF kr kr ?_
   refine D_pure (i := 0) [0, 1] rfl kr rfl (pr_move rfl rfl) (.inr rfl) rfl rfl ?_
   refine D_pure (i := 3) [0, 1] rfl kr rfl (pr_move rfl rfl) (.inr rfl) rfl rfl ?_
   refine D_join (T := Unit) (fun _ => True) (fun _ => [(0, (.slice A n c)), (2, (.pointer (some ⟨g1, 0, none⟩))), (4, (b64 (ath (wds b 4) 0))), (5, (b64 (ath (wds b 4) 1)))]) (fun _ => [.blk g1 43 [(.bool false), (.int .i64 ((0 : Nat) : Int)), (.int .i64 ((0 : Nat) : Int)), (.int .i64 ((0 : Nat) : Int))], .rd A 1 n c (b.map b8)]) ?_ ?_
   ·
    refine D_all [1, 4] kr (by simp) ⟨⟨_, rfl, rfl, ?_⟩, ⟨_, rfl, rfl, ?_⟩, trivial⟩
    ·
     refine id (op_slice_rd (l := 0) (u := 8) 1 rfl sd sd Try.underlying23 kr rfl rfl rfl ⟨_, rfl⟩ rfl rfl (fun B10 => ?_))
     refine T_as 0 _ (.rd B10 1 8 c ((List.take 8 b).map b8)) rfl (by congr 1; simp [List.map_take, List.map_drop] <;> omega) ?_
     refine T_slot 17 _ (.slice B10 8 c) rfl (by congr 1) ?_
     refine D_on [1, 2] rfl ?_
     refine D_all [2, 4] kr (by simp) ⟨⟨_, rfl, rfl, ?_⟩, ⟨_, rfl, rfl, ?_⟩, trivial⟩
     ·
      refine id (op_cn (fun w hw => number_f (List.take 8 b) B10 8 c w (hok_cons ((src_rd 0 rfl) w hw) (hok_nil w)) sd sd) (enters_of Try.func38 kr rfl) rfl rfl rfl rfl rfl (fun t11 q12 => ?_))
      refine T_slot 18 (b64 (low (List.take 8 b) 8)) (b64 (ath (wds b 4) 0)) rfl (by rw [wds4 b (by omega)]; rfl) ?_
      refine D_on [1, 2] rfl ?_
      refine D_one 4 _ rfl kr rfl (op_slice_rd (l := 8) (u := 16) 2 rfl sd sd Try.underlying23 kr rfl rfl ⟨_, rfl⟩ ⟨_, rfl⟩ rfl rfl (fun B13 => ?_))
      refine T_as 0 _ (.rd B13 1 (16 - 8) (c - 8) ((List.take (16 - 8) (List.drop 8 b)).map b8)) rfl (by congr 1; simp [List.map_take, List.map_drop] <;> omega) ?_
      refine D_on [2, 3] rfl ?_
      refine D_one 5 _ rfl kr rfl (op_cn (fun w hw => number_f (List.take (16 - 8) (List.drop 8 b)) B13 (16 - 8) (c - 8) w (hok_cons ((src_rd 0 rfl) w hw) (hok_nil w)) sd sd) (enters_of Try.func38 kr rfl) rfl rfl rfl rfl rfl (fun t14 q15 => ?_))
      refine T_slot 21 (b64 (low (List.take (16 - 8) (List.drop 8 b)) 8)) (b64 (ath (wds b 4) 1)) rfl (by rw [wds4 b (by omega)]; rfl) ?_
      refine D_on [2, 3] rfl ?_
      refine D_pure (i := 6) [2, 3] rfl kr rfl (pr_assign rfl rfl) (.inr rfl) rfl rfl ?_
      refine D_pure (i := 7) [2, 3] rfl kr rfl (pr_assign rfl rfl) (.inr rfl) rfl rfl ?_
      refine D_done kr ?_
      exact T_meet () trivial (sc rfl (sc rfl (sc rfl (sc rfl sn)))) [2, 3] ⟨by decide, rfl⟩
     ·
      refine id (op_slice_rd (l := 8) (u := 16) 2 rfl sd sd Try.underlying23 kr rfl rfl ⟨_, rfl⟩ ⟨_, rfl⟩ rfl rfl (fun B16 => ?_))
      refine T_as 0 _ (.rd B16 1 (16 - 8) (c - 8) ((List.take (16 - 8) (List.drop 8 b)).map b8)) rfl (by congr 1; simp [List.map_take, List.map_drop] <;> omega) ?_
      refine D_on [2, 3] rfl ?_
      refine D_one 2 _ rfl kr rfl (op_cn (fun w hw => number_f (List.take 8 b) B10 8 c w (hok_cons ((src_rd 1 rfl) w hw) (hok_nil w)) sd sd) (enters_of Try.func38 kr rfl) rfl rfl rfl rfl rfl (fun t17 q18 => ?_))
      refine T_slot 18 (b64 (low (List.take 8 b) 8)) (b64 (ath (wds b 4) 0)) rfl (by rw [wds4 b (by omega)]; rfl) ?_
      refine D_on [2, 3] rfl ?_
      refine D_one 5 _ rfl kr rfl (op_cn (fun w hw => number_f (List.take (16 - 8) (List.drop 8 b)) B16 (16 - 8) (c - 8) w (hok_cons ((src_rd 0 rfl) w hw) (hok_nil w)) sd sd) (enters_of Try.func38 kr rfl) rfl rfl rfl rfl rfl (fun t19 q20 => ?_))
      refine T_slot 21 (b64 (low (List.take (16 - 8) (List.drop 8 b)) 8)) (b64 (ath (wds b 4) 1)) rfl (by rw [wds4 b (by omega)]; rfl) ?_
      refine D_on [2, 3] rfl ?_
      refine D_pure (i := 6) [2, 3] rfl kr rfl (pr_assign rfl rfl) (.inr rfl) rfl rfl ?_
      refine D_pure (i := 7) [2, 3] rfl kr rfl (pr_assign rfl rfl) (.inr rfl) rfl rfl ?_
      refine D_done kr ?_
      exact T_meet () trivial (sc rfl (sc rfl (sc rfl (sc rfl sn)))) [2, 3] ⟨by decide, rfl⟩
    ·
     refine id (op_slice_rd (l := 8) (u := 16) 1 rfl sd sd Try.underlying23 kr rfl rfl ⟨_, rfl⟩ ⟨_, rfl⟩ rfl rfl (fun B21 => ?_))
     refine T_as 0 _ (.rd B21 1 (16 - 8) (c - 8) ((List.take (16 - 8) (List.drop 8 b)).map b8)) rfl (by congr 1; simp [List.map_take, List.map_drop] <;> omega) ?_
     refine D_on [1, 2] rfl ?_
     refine D_one 1 _ rfl kr rfl (op_slice_rd (l := 0) (u := 8) 2 rfl sd sd Try.underlying23 kr rfl rfl rfl ⟨_, rfl⟩ rfl rfl (fun B22 => ?_))
     refine T_as 0 _ (.rd B22 1 8 c ((List.take 8 b).map b8)) rfl (by congr 1; simp [List.map_take, List.map_drop] <;> omega) ?_
     refine T_slot 17 _ (.slice B22 8 c) rfl (by congr 1) ?_
     refine D_on [2, 3] rfl ?_
     refine D_one 2 _ rfl kr rfl (op_cn (fun w hw => number_f (List.take 8 b) B22 8 c w (hok_cons ((src_rd 0 rfl) w hw) (hok_nil w)) sd sd) (enters_of Try.func38 kr rfl) rfl rfl rfl rfl rfl (fun t23 q24 => ?_))
     refine T_slot 18 (b64 (low (List.take 8 b) 8)) (b64 (ath (wds b 4) 0)) rfl (by rw [wds4 b (by omega)]; rfl) ?_
     refine D_on [2, 3] rfl ?_
     refine D_one 5 _ rfl kr rfl (op_cn (fun w hw => number_f (List.take (16 - 8) (List.drop 8 b)) B21 (16 - 8) (c - 8) w (hok_cons ((src_rd 1 rfl) w hw) (hok_nil w)) sd sd) (enters_of Try.func38 kr rfl) rfl rfl rfl rfl rfl (fun t25 q26 => ?_))
     refine T_slot 21 (b64 (low (List.take (16 - 8) (List.drop 8 b)) 8)) (b64 (ath (wds b 4) 1)) rfl (by rw [wds4 b (by omega)]; rfl) ?_
     refine D_on [2, 3] rfl ?_
     refine D_pure (i := 6) [2, 3] rfl kr rfl (pr_assign rfl rfl) (.inr rfl) rfl rfl ?_
     refine D_pure (i := 7) [2, 3] rfl kr rfl (pr_assign rfl rfl) (.inr rfl) rfl rfl ?_
     refine D_done kr ?_
     exact T_meet () trivial (sc rfl (sc rfl (sc rfl (sc rfl sn)))) [2, 3] ⟨by decide, rfl⟩
   ·
    rintro ⟨⟩ -
    refine T_re [(0, (.slice A n c)), (2, (.pointer (some ⟨g1, 0, none⟩))), (4, (b64 (ath (wds b 4) 0))), (5, (b64 (ath (wds b 4) 1)))] (sc rfl (sc rfl (sc rfl (sc rfl sn)))) ?_
    refine T_he [0, 1] [.blk g1 43 [(.bool false), (.int .i64 ((0 : Nat) : Int)), (.int .i64 ((0 : Nat) : Int)), (.int .i64 ((0 : Nat) : Int))], .rd A 1 n c (b.map b8)] ⟨by decide, rfl⟩ ?_
    refine T_seq ?_
    refine T_regD [.blk g1 43 [(.bool false), (.int .i64 ((0 : Nat) : Int)), (.int .i64 ((0 : Nat) : Int)), (.int .i64 ((0 : Nat) : Int))], .rd A 1 n c (b.map b8)] 8 8 #[false, false, false, false, false, false, false, false] hF kr kr ?_
    refine D_pure (i := 0) [0, 1] rfl kr rfl (pr_move rfl rfl) (.inr rfl) rfl rfl ?_
    refine D_pure (i := 3) [0, 1] rfl kr rfl (pr_move rfl rfl) (.inr rfl) rfl rfl ?_
    refine D_join (T := Unit) (fun _ => True) (fun _ => [(2, (.pointer (some ⟨g1, 0, none⟩))), (4, (b64 (ath (wds b 4) 0))), (5, (b64 (ath (wds b 4) 1))), (6, (b64 (ath (wds b 4) 2))), (7, (b64 (ath (wds b 4) 3)))]) (fun _ => [.blk g1 43 [(.bool false), (.int .i64 ((0 : Nat) : Int)), (.int .i64 ((0 : Nat) : Int)), (.int .i64 ((0 : Nat) : Int))], .rd A 1 n c (b.map b8)]) ?_ ?_
    ·
     refine D_all [1, 4] kr (by simp) ⟨⟨_, rfl, rfl, ?_⟩, ⟨_, rfl, rfl, ?_⟩, trivial⟩
     ·
      refine id (op_slice_rd (l := 16) (u := 24) 1 rfl sd sd Try.underlying23 kr rfl rfl ⟨_, rfl⟩ ⟨_, rfl⟩ rfl rfl (fun B33 => ?_))
      refine T_as 0 _ (.rd B33 1 (24 - 16) (c - 16) ((List.take (24 - 16) (List.drop 16 b)).map b8)) rfl (by congr 1; simp [List.map_take, List.map_drop] <;> omega) ?_
      refine D_on [1, 2] rfl ?_
      refine D_all [2, 4] kr (by simp) ⟨⟨_, rfl, rfl, ?_⟩, ⟨_, rfl, rfl, ?_⟩, trivial⟩
      ·
       refine id (op_cn (fun w hw => number_f (List.take (24 - 16) (List.drop 16 b)) B33 (24 - 16) (c - 16) w (hok_cons ((src_rd 0 rfl) w hw) (hok_nil w)) sd sd) (enters_of Try.func38 kr rfl) rfl rfl rfl rfl rfl (fun t34 q35 => ?_))
       refine T_slot 24 (b64 (low (List.take (24 - 16) (List.drop 16 b)) 8)) (b64 (ath (wds b 4) 2)) rfl (by rw [wds4 b (by omega)]; rfl) ?_
       refine D_on [1, 2] rfl ?_
       refine D_one 4 _ rfl kr rfl (op_slice_rd (l := 24) (u := n) 2 rfl sd sd Try.underlying23 kr rfl rfl ⟨_, rfl⟩ rfl rfl rfl (fun B36 => ?_))
       refine T_as 0 _ (.rd B36 1 (n - 24) (c - 24) ((List.drop 24 b).map b8)) rfl (by congr 1; first | rfl | (rw [List.take_of_length_le (by simp; omega)]; simp)) ?_
       refine D_on [2, 3] rfl ?_
       refine D_one 5 _ rfl kr rfl (op_cn (fun w hw => number_f (List.drop 24 b) B36 (n - 24) (c - 24) w (hok_cons ((src_rd 0 rfl) w hw) (hok_nil w)) sd sd) (enters_of Try.func38 kr rfl) rfl rfl rfl rfl rfl (fun t37 q38 => ?_))
       refine T_slot 27 (b64 (low (List.drop 24 b) 8)) (b64 (ath (wds b 4) 3)) rfl (by rw [wds4 b (by omega)]; rfl) ?_
       refine D_on [2, 3] rfl ?_
       refine D_pure (i := 6) [2, 3] rfl kr rfl (pr_assign rfl rfl) (.inr rfl) rfl rfl ?_
       refine D_pure (i := 7) [2, 3] rfl kr rfl (pr_assign rfl rfl) (.inr rfl) rfl rfl ?_
       refine D_done kr ?_
       exact T_meet () trivial (sc rfl (sc rfl (sc rfl (sc rfl (sc rfl sn))))) [2, 3] ⟨by decide, rfl⟩
      ·
       refine id (op_slice_rd (l := 24) (u := n) 2 rfl sd sd Try.underlying23 kr rfl rfl ⟨_, rfl⟩ rfl rfl rfl (fun B39 => ?_))
       refine T_as 0 _ (.rd B39 1 (n - 24) (c - 24) ((List.drop 24 b).map b8)) rfl (by congr 1; first | rfl | (rw [List.take_of_length_le (by simp; omega)]; simp)) ?_
       refine D_on [2, 3] rfl ?_
       refine D_one 2 _ rfl kr rfl (op_cn (fun w hw => number_f (List.take (24 - 16) (List.drop 16 b)) B33 (24 - 16) (c - 16) w (hok_cons ((src_rd 1 rfl) w hw) (hok_nil w)) sd sd) (enters_of Try.func38 kr rfl) rfl rfl rfl rfl rfl (fun t40 q41 => ?_))
       refine T_slot 24 (b64 (low (List.take (24 - 16) (List.drop 16 b)) 8)) (b64 (ath (wds b 4) 2)) rfl (by rw [wds4 b (by omega)]; rfl) ?_
       refine D_on [2, 3] rfl ?_
       refine D_one 5 _ rfl kr rfl (op_cn (fun w hw => number_f (List.drop 24 b) B39 (n - 24) (c - 24) w (hok_cons ((src_rd 0 rfl) w hw) (hok_nil w)) sd sd) (enters_of Try.func38 kr rfl) rfl rfl rfl rfl rfl (fun t42 q43 => ?_))
       refine T_slot 27 (b64 (low (List.drop 24 b) 8)) (b64 (ath (wds b 4) 3)) rfl (by rw [wds4 b (by omega)]; rfl) ?_
       refine D_on [2, 3] rfl ?_
       refine D_pure (i := 6) [2, 3] rfl kr rfl (pr_assign rfl rfl) (.inr rfl) rfl rfl ?_
       refine D_pure (i := 7) [2, 3] rfl kr rfl (pr_assign rfl rfl) (.inr rfl) rfl rfl ?_
       refine D_done kr ?_
       exact T_meet () trivial (sc rfl (sc rfl (sc rfl (sc rfl (sc rfl sn))))) [2, 3] ⟨by decide, rfl⟩
     ·
      refine id (op_slice_rd (l := 24) (u := n) 1 rfl sd sd Try.underlying23 kr rfl rfl ⟨_, rfl⟩ rfl rfl rfl (fun B44 => ?_))
      refine T_as 0 _ (.rd B44 1 (n - 24) (c - 24) ((List.drop 24 b).map b8)) rfl (by congr 1; first | rfl | (rw [List.take_of_length_le (by simp; omega)]; simp)) ?_
      refine D_on [1, 2] rfl ?_
      refine D_one 1 _ rfl kr rfl (op_slice_rd (l := 16) (u := 24) 2 rfl sd sd Try.underlying23 kr rfl rfl ⟨_, rfl⟩ ⟨_, rfl⟩ rfl rfl (fun B45 => ?_))
      refine T_as 0 _ (.rd B45 1 (24 - 16) (c - 16) ((List.take (24 - 16) (List.drop 16 b)).map b8)) rfl (by congr 1; simp [List.map_take, List.map_drop] <;> omega) ?_
      refine D_on [2, 3] rfl ?_
      refine D_one 2 _ rfl kr rfl (op_cn (fun w hw => number_f (List.take (24 - 16) (List.drop 16 b)) B45 (24 - 16) (c - 16) w (hok_cons ((src_rd 0 rfl) w hw) (hok_nil w)) sd sd) (enters_of Try.func38 kr rfl) rfl rfl rfl rfl rfl (fun t46 q47 => ?_))
      refine T_slot 24 (b64 (low (List.take (24 - 16) (List.drop 16 b)) 8)) (b64 (ath (wds b 4) 2)) rfl (by rw [wds4 b (by omega)]; rfl) ?_
      refine D_on [2, 3] rfl ?_
      refine D_one 5 _ rfl kr rfl (op_cn (fun w hw => number_f (List.drop 24 b) B44 (n - 24) (c - 24) w (hok_cons ((src_rd 1 rfl) w hw) (hok_nil w)) sd sd) (enters_of Try.func38 kr rfl) rfl rfl rfl rfl rfl (fun t48 q49 => ?_))
      refine T_slot 27 (b64 (low (List.drop 24 b) 8)) (b64 (ath (wds b 4) 3)) rfl (by rw [wds4 b (by omega)]; rfl) ?_
      refine D_on [2, 3] rfl ?_
      refine D_pure (i := 6) [2, 3] rfl kr rfl (pr_assign rfl rfl) (.inr rfl) rfl rfl ?_
      refine D_pure (i := 7) [2, 3] rfl kr rfl (pr_assign rfl rfl) (.inr rfl) rfl rfl ?_
      refine D_done kr ?_
      exact T_meet () trivial (sc rfl (sc rfl (sc rfl (sc rfl (sc rfl sn))))) [2, 3] ⟨by decide, rfl⟩
    ·
     rintro ⟨⟩ -
     refine T_re [(2, (.pointer (some ⟨g1, 0, none⟩))), (4, (b64 (ath (wds b 4) 0))), (5, (b64 (ath (wds b 4) 1))), (6, (b64 (ath (wds b 4) 2))), (7, (b64 (ath (wds b 4) 3)))] (sc rfl (sc rfl (sc rfl (sc rfl (sc rfl sn))))) ?_
     refine T_he [0, 1] [.blk g1 43 [(.bool false), (.int .i64 ((0 : Nat) : Int)), (.int .i64 ((0 : Nat) : Int)), (.int .i64 ((0 : Nat) : Int))], .rd A 1 n c (b.map b8)] ⟨by decide, rfl⟩ ?_
     refine T_seq ?_
     refine Tsr hF rfl ?_
     refine lm rfl rfl rfl rfl rfl ?_
     refine lo rfl (pr_cmp (bo := .gtr) (cm_lt64 (1#64) (ath (wds b 4) 0)) rfl rfl rfl rfl) rfl rfl ?_
     refine lm rfl rfl rfl rfl rfl ?_
     rcases Bool.eq_false_or_eq_true (decide (1#64 < (ath (wds b 4) 0))) with hc_50 | hc_50
     ·
      refine T_slot 30 (.bool (decide (1#64 < (ath (wds b 4) 0)))) (.bool true) rfl (congrArg _ hc_50) ?_
      refine T_slot 29 (.bool (decide (1#64 < (ath (wds b 4) 0)))) (.bool true) rfl (congrArg _ hc_50) ?_
      have hc_50 := of_decide_eq_true hc_50
      refine L_skip rfl rfl rfl ?_
      refine L_skip rfl rfl rfl ?_
      refine L_skip rfl rfl rfl ?_
      refine L_skip rfl rfl rfl ?_
      refine L_skip rfl rfl rfl ?_
      refine L_skip rfl rfl rfl ?_
      refine L_skip rfl rfl rfl ?_
      refine L_skip rfl rfl rfl ?_
      refine L_skip rfl rfl rfl ?_
      refine L_skip rfl rfl rfl ?_
      refine L_skip rfl rfl rfl ?_
      refine L_skip rfl rfl rfl ?_
      refine L_skip rfl rfl rfl ?_
      refine L_skip rfl rfl rfl ?_
      refine lo rfl (pr_pick_t rfl rfl rfl) rfl rfl ?_
      refine L_nil ?_
      refine T_cond_t rfl ?_
      refine Tsr hF rfl ?_
      refine lo rfl (pr_build (qs := []) (v := .agg [(.bool false), (.int .i64 ((0 : Nat) : Int)), (.int .i64 ((0 : Nat) : Int)), (.int .i64 ((0 : Nat) : Int))].toArray) (fun _ => by kernel_rfl) rfl rfl) rfl rfl ?_
      refine L_op rfl (op_sto (n := 4) (vs := [(.bool false), (.int .i64 ((0 : Nat) : Int)), (.int .i64 ((0 : Nat) : Int)), (.int .i64 ((0 : Nat) : Int))]) 0 rfl rfl kr (by simp [Value.oneCell']) kr kr rfl rfl rfl rfl ?_)
      refine la rfl rfl rfl rfl rfl ?_
      refine L_nil ?_
      refine T_ret ?_
      refine T_as 0 _ (.blk g1 43 [(.bool ((rtk b).d)), (.int .i64 (i64 (rtk b).k)), (.int .i64 (i64 (rtk b).v)), (.int .i64 (i64 (rtk b).s))]) rfl (by first | rfl | (rw [rtk_no (by rw [rte_short (by omega)]; decide)]; rfl) | rw [rte_short (by omega)] | (rw [rtk_no (by rw [rte_long (by omega)]; decide)]; rfl) | rw [rte_long (by omega)] | (rw [rtk_no (by rw [rte_bad (by omega) (rb1 (by assumption))]; decide)]; rfl) | rw [rte_bad (by omega) (rb1 (by assumption))] | (rw [rtk_no (by rw [rte_bad (by omega) (rb2 (by assumption) (by assumption))]; decide)]; rfl) | rw [rte_bad (by omega) (rb2 (by assumption) (by assumption))] | (rw [rtk_no (by rw [rte_bad (by omega) (rb3 (by assumption) (by assumption))]; decide)]; rfl) | rw [rte_bad (by omega) (rb3 (by assumption) (by assumption))] | (rw [rtk_no (by rw [rte_bad (by omega) (rb4 (by assumption) (by assumption))]; decide)]; rfl) | rw [rte_bad (by omega) (rb4 (by assumption) (by assumption))] | (rw [rtk_no (by rw [rte_bad (by omega) (rb5 (by assumption) (by assumption))]; decide)]; rfl) | rw [rte_bad (by omega) (rb5 (by assumption) (by assumption))] | (rw [rtk_ok (rte_ok (by omega) (nb1 (by assumption) (by assumption) (by assumption)))]; rfl) | rw [rte_ok (by omega) (nb1 (by assumption) (by assumption) (by assumption))] | (rw [rtk_ok (rte_ok (by omega) (nb2 (by assumption) (by assumption)))]; rfl) | rw [rte_ok (by omega) (nb2 (by assumption) (by assumption))] | (rw [rtk_ok (rte_ok (by omega) (nb3 (by assumption) (by assumption) (by assumption) (by assumption)))]; rfl) | rw [rte_ok (by omega) (nb3 (by assumption) (by assumption) (by assumption) (by assumption))]) ?_
      refine T_slot 3 (.int .i64 ((4 : Nat) : Int)) (.int .i64 (((rte b) : Nat) : Int)) rfl (by first | rfl | (rw [rtk_no (by rw [rte_short (by omega)]; decide)]; rfl) | rw [rte_short (by omega)] | (rw [rtk_no (by rw [rte_long (by omega)]; decide)]; rfl) | rw [rte_long (by omega)] | (rw [rtk_no (by rw [rte_bad (by omega) (rb1 (by assumption))]; decide)]; rfl) | rw [rte_bad (by omega) (rb1 (by assumption))] | (rw [rtk_no (by rw [rte_bad (by omega) (rb2 (by assumption) (by assumption))]; decide)]; rfl) | rw [rte_bad (by omega) (rb2 (by assumption) (by assumption))] | (rw [rtk_no (by rw [rte_bad (by omega) (rb3 (by assumption) (by assumption))]; decide)]; rfl) | rw [rte_bad (by omega) (rb3 (by assumption) (by assumption))] | (rw [rtk_no (by rw [rte_bad (by omega) (rb4 (by assumption) (by assumption))]; decide)]; rfl) | rw [rte_bad (by omega) (rb4 (by assumption) (by assumption))] | (rw [rtk_no (by rw [rte_bad (by omega) (rb5 (by assumption) (by assumption))]; decide)]; rfl) | rw [rte_bad (by omega) (rb5 (by assumption) (by assumption))] | (rw [rtk_ok (rte_ok (by omega) (nb1 (by assumption) (by assumption) (by assumption)))]; rfl) | rw [rte_ok (by omega) (nb1 (by assumption) (by assumption) (by assumption))] | (rw [rtk_ok (rte_ok (by omega) (nb2 (by assumption) (by assumption)))]; rfl) | rw [rte_ok (by omega) (nb2 (by assumption) (by assumption))] | (rw [rtk_ok (rte_ok (by omega) (nb3 (by assumption) (by assumption) (by assumption) (by assumption)))]; rfl) | rw [rte_ok (by omega) (nb3 (by assumption) (by assumption) (by assumption) (by assumption))]) ?_
      exact T_fin () (by first | trivial | omega | (simp; done)) (resct 0 rfl rfl rfl Try.underlying43 rfl kr rfl) [] ⟨by decide, rfl⟩ rfl
     ·
      refine T_slot 30 (.bool (decide (1#64 < (ath (wds b 4) 0)))) (.bool false) rfl (congrArg _ hc_50) ?_
      refine T_slot 29 (.bool (decide (1#64 < (ath (wds b 4) 0)))) (.bool false) rfl (congrArg _ hc_50) ?_
      have hc_50 := of_decide_eq_false hc_50
      refine lm rfl rfl rfl rfl rfl ?_
      refine lo rfl (pr_cmp (bo := .eql) (n64_beq (ath (wds b 4) 0) (1#64)) rfl rfl rfl rfl) rfl rfl ?_
      refine lm rfl rfl rfl rfl rfl ?_
      rcases Bool.eq_false_or_eq_true ((ath (wds b 4) 0) == 1#64) with hc_51 | hc_51
      ·
       refine T_slot 33 (.bool ((ath (wds b 4) 0) == 1#64)) (.bool true) rfl (congrArg _ hc_51) ?_
       refine T_slot 32 (.bool ((ath (wds b 4) 0) == 1#64)) (.bool true) rfl (congrArg _ hc_51) ?_
       have hc_51 : (ath (wds b 4) 0) = 1#64 := by simpa using hc_51
       refine lm rfl rfl rfl rfl rfl ?_
       refine lo rfl (pr_cmp (bo := .neq) (n64_bne (ath (wds b 4) 1) (0#64)) rfl rfl rfl rfl) rfl rfl ?_
       refine lm rfl rfl rfl rfl rfl ?_
       rcases Bool.eq_false_or_eq_true ((ath (wds b 4) 1) != 0#64) with hc_52 | hc_52
       ·
        refine T_slot 36 (.bool ((ath (wds b 4) 1) != 0#64)) (.bool true) rfl (congrArg _ hc_52) ?_
        refine T_slot 35 (.bool ((ath (wds b 4) 1) != 0#64)) (.bool true) rfl (congrArg _ hc_52) ?_
        have hc_52 : ¬ (ath (wds b 4) 1) = 0#64 := by simpa using hc_52
        refine L_skip rfl rfl rfl ?_
        refine L_skip rfl rfl rfl ?_
        refine lo rfl (pr_pick_t rfl rfl rfl) rfl rfl ?_
        refine lm rfl rfl rfl rfl rfl ?_
        refine L_skip rfl rfl rfl ?_
        refine L_skip rfl rfl rfl ?_
        refine lo rfl (pr_pick_t rfl rfl rfl) rfl rfl ?_
        refine lo rfl (pr_pick_t rfl rfl rfl) rfl rfl ?_
        refine lo rfl (pr_pick_f rfl rfl rfl) rfl rfl ?_
        refine L_nil ?_
        refine T_cond_t rfl ?_
        refine Tsr hF rfl ?_
        refine lo rfl (pr_build (qs := []) (v := .agg [(.bool false), (.int .i64 ((0 : Nat) : Int)), (.int .i64 ((0 : Nat) : Int)), (.int .i64 ((0 : Nat) : Int))].toArray) (fun _ => by kernel_rfl) rfl rfl) rfl rfl ?_
        refine L_op rfl (op_sto (n := 4) (vs := [(.bool false), (.int .i64 ((0 : Nat) : Int)), (.int .i64 ((0 : Nat) : Int)), (.int .i64 ((0 : Nat) : Int))]) 0 rfl rfl kr (by simp [Value.oneCell']) kr kr rfl rfl rfl rfl ?_)
        refine la rfl rfl rfl rfl rfl ?_
        refine L_nil ?_
        refine T_ret ?_
        refine T_as 0 _ (.blk g1 43 [(.bool ((rtk b).d)), (.int .i64 (i64 (rtk b).k)), (.int .i64 (i64 (rtk b).v)), (.int .i64 (i64 (rtk b).s))]) rfl (by first | rfl | (rw [rtk_no (by rw [rte_short (by omega)]; decide)]; rfl) | rw [rte_short (by omega)] | (rw [rtk_no (by rw [rte_long (by omega)]; decide)]; rfl) | rw [rte_long (by omega)] | (rw [rtk_no (by rw [rte_bad (by omega) (rb1 (by assumption))]; decide)]; rfl) | rw [rte_bad (by omega) (rb1 (by assumption))] | (rw [rtk_no (by rw [rte_bad (by omega) (rb2 (by assumption) (by assumption))]; decide)]; rfl) | rw [rte_bad (by omega) (rb2 (by assumption) (by assumption))] | (rw [rtk_no (by rw [rte_bad (by omega) (rb3 (by assumption) (by assumption))]; decide)]; rfl) | rw [rte_bad (by omega) (rb3 (by assumption) (by assumption))] | (rw [rtk_no (by rw [rte_bad (by omega) (rb4 (by assumption) (by assumption))]; decide)]; rfl) | rw [rte_bad (by omega) (rb4 (by assumption) (by assumption))] | (rw [rtk_no (by rw [rte_bad (by omega) (rb5 (by assumption) (by assumption))]; decide)]; rfl) | rw [rte_bad (by omega) (rb5 (by assumption) (by assumption))] | (rw [rtk_ok (rte_ok (by omega) (nb1 (by assumption) (by assumption) (by assumption)))]; rfl) | rw [rte_ok (by omega) (nb1 (by assumption) (by assumption) (by assumption))] | (rw [rtk_ok (rte_ok (by omega) (nb2 (by assumption) (by assumption)))]; rfl) | rw [rte_ok (by omega) (nb2 (by assumption) (by assumption))] | (rw [rtk_ok (rte_ok (by omega) (nb3 (by assumption) (by assumption) (by assumption) (by assumption)))]; rfl) | rw [rte_ok (by omega) (nb3 (by assumption) (by assumption) (by assumption) (by assumption))]) ?_
        refine T_slot 3 (.int .i64 ((4 : Nat) : Int)) (.int .i64 (((rte b) : Nat) : Int)) rfl (by first | rfl | (rw [rtk_no (by rw [rte_short (by omega)]; decide)]; rfl) | rw [rte_short (by omega)] | (rw [rtk_no (by rw [rte_long (by omega)]; decide)]; rfl) | rw [rte_long (by omega)] | (rw [rtk_no (by rw [rte_bad (by omega) (rb1 (by assumption))]; decide)]; rfl) | rw [rte_bad (by omega) (rb1 (by assumption))] | (rw [rtk_no (by rw [rte_bad (by omega) (rb2 (by assumption) (by assumption))]; decide)]; rfl) | rw [rte_bad (by omega) (rb2 (by assumption) (by assumption))] | (rw [rtk_no (by rw [rte_bad (by omega) (rb3 (by assumption) (by assumption))]; decide)]; rfl) | rw [rte_bad (by omega) (rb3 (by assumption) (by assumption))] | (rw [rtk_no (by rw [rte_bad (by omega) (rb4 (by assumption) (by assumption))]; decide)]; rfl) | rw [rte_bad (by omega) (rb4 (by assumption) (by assumption))] | (rw [rtk_no (by rw [rte_bad (by omega) (rb5 (by assumption) (by assumption))]; decide)]; rfl) | rw [rte_bad (by omega) (rb5 (by assumption) (by assumption))] | (rw [rtk_ok (rte_ok (by omega) (nb1 (by assumption) (by assumption) (by assumption)))]; rfl) | rw [rte_ok (by omega) (nb1 (by assumption) (by assumption) (by assumption))] | (rw [rtk_ok (rte_ok (by omega) (nb2 (by assumption) (by assumption)))]; rfl) | rw [rte_ok (by omega) (nb2 (by assumption) (by assumption))] | (rw [rtk_ok (rte_ok (by omega) (nb3 (by assumption) (by assumption) (by assumption) (by assumption)))]; rfl) | rw [rte_ok (by omega) (nb3 (by assumption) (by assumption) (by assumption) (by assumption))]) ?_
        exact T_fin () (by first | trivial | omega | (simp; done)) (resct 0 rfl rfl rfl Try.underlying43 rfl kr rfl) [] ⟨by decide, rfl⟩ rfl
       ·
        refine T_slot 36 (.bool ((ath (wds b 4) 1) != 0#64)) (.bool false) rfl (congrArg _ hc_52) ?_
        refine T_slot 35 (.bool ((ath (wds b 4) 1) != 0#64)) (.bool false) rfl (congrArg _ hc_52) ?_
        have hc_52 : (ath (wds b 4) 1) = 0#64 := by simpa using hc_52
        refine lm rfl rfl rfl rfl rfl ?_
        refine lo rfl (pr_cmp (bo := .neq) (n64_bne (ath (wds b 4) 2) (0#64)) rfl rfl rfl rfl) rfl rfl ?_
        refine lo rfl (pr_pick_f rfl rfl rfl) rfl rfl ?_
        refine lm rfl rfl rfl rfl rfl ?_
        rcases Bool.eq_false_or_eq_true ((ath (wds b 4) 2) != 0#64) with hc_53 | hc_53
        ·
         refine T_slot 40 (.bool ((ath (wds b 4) 2) != 0#64)) (.bool true) rfl (congrArg _ hc_53) ?_
         refine T_slot 38 (.bool ((ath (wds b 4) 2) != 0#64)) (.bool true) rfl (congrArg _ hc_53) ?_
         refine T_slot 39 (.bool ((ath (wds b 4) 2) != 0#64)) (.bool true) rfl (congrArg _ hc_53) ?_
         have hc_53 : ¬ (ath (wds b 4) 2) = 0#64 := by simpa using hc_53
         refine L_skip rfl rfl rfl ?_
         refine L_skip rfl rfl rfl ?_
         refine lo rfl (pr_pick_t rfl rfl rfl) rfl rfl ?_
         refine lo rfl (pr_pick_t rfl rfl rfl) rfl rfl ?_
         refine lo rfl (pr_pick_f rfl rfl rfl) rfl rfl ?_
         refine L_nil ?_
         refine T_cond_t rfl ?_
         refine Tsr hF rfl ?_
         refine lo rfl (pr_build (qs := []) (v := .agg [(.bool false), (.int .i64 ((0 : Nat) : Int)), (.int .i64 ((0 : Nat) : Int)), (.int .i64 ((0 : Nat) : Int))].toArray) (fun _ => by kernel_rfl) rfl rfl) rfl rfl ?_
         refine L_op rfl (op_sto (n := 4) (vs := [(.bool false), (.int .i64 ((0 : Nat) : Int)), (.int .i64 ((0 : Nat) : Int)), (.int .i64 ((0 : Nat) : Int))]) 0 rfl rfl kr (by simp [Value.oneCell']) kr kr rfl rfl rfl rfl ?_)
         refine la rfl rfl rfl rfl rfl ?_
         refine L_nil ?_
         refine T_ret ?_
         refine T_as 0 _ (.blk g1 43 [(.bool ((rtk b).d)), (.int .i64 (i64 (rtk b).k)), (.int .i64 (i64 (rtk b).v)), (.int .i64 (i64 (rtk b).s))]) rfl (by first | rfl | (rw [rtk_no (by rw [rte_short (by omega)]; decide)]; rfl) | rw [rte_short (by omega)] | (rw [rtk_no (by rw [rte_long (by omega)]; decide)]; rfl) | rw [rte_long (by omega)] | (rw [rtk_no (by rw [rte_bad (by omega) (rb1 (by assumption))]; decide)]; rfl) | rw [rte_bad (by omega) (rb1 (by assumption))] | (rw [rtk_no (by rw [rte_bad (by omega) (rb2 (by assumption) (by assumption))]; decide)]; rfl) | rw [rte_bad (by omega) (rb2 (by assumption) (by assumption))] | (rw [rtk_no (by rw [rte_bad (by omega) (rb3 (by assumption) (by assumption))]; decide)]; rfl) | rw [rte_bad (by omega) (rb3 (by assumption) (by assumption))] | (rw [rtk_no (by rw [rte_bad (by omega) (rb4 (by assumption) (by assumption))]; decide)]; rfl) | rw [rte_bad (by omega) (rb4 (by assumption) (by assumption))] | (rw [rtk_no (by rw [rte_bad (by omega) (rb5 (by assumption) (by assumption))]; decide)]; rfl) | rw [rte_bad (by omega) (rb5 (by assumption) (by assumption))] | (rw [rtk_ok (rte_ok (by omega) (nb1 (by assumption) (by assumption) (by assumption)))]; rfl) | rw [rte_ok (by omega) (nb1 (by assumption) (by assumption) (by assumption))] | (rw [rtk_ok (rte_ok (by omega) (nb2 (by assumption) (by assumption)))]; rfl) | rw [rte_ok (by omega) (nb2 (by assumption) (by assumption))] | (rw [rtk_ok (rte_ok (by omega) (nb3 (by assumption) (by assumption) (by assumption) (by assumption)))]; rfl) | rw [rte_ok (by omega) (nb3 (by assumption) (by assumption) (by assumption) (by assumption))]) ?_
         refine T_slot 3 (.int .i64 ((4 : Nat) : Int)) (.int .i64 (((rte b) : Nat) : Int)) rfl (by first | rfl | (rw [rtk_no (by rw [rte_short (by omega)]; decide)]; rfl) | rw [rte_short (by omega)] | (rw [rtk_no (by rw [rte_long (by omega)]; decide)]; rfl) | rw [rte_long (by omega)] | (rw [rtk_no (by rw [rte_bad (by omega) (rb1 (by assumption))]; decide)]; rfl) | rw [rte_bad (by omega) (rb1 (by assumption))] | (rw [rtk_no (by rw [rte_bad (by omega) (rb2 (by assumption) (by assumption))]; decide)]; rfl) | rw [rte_bad (by omega) (rb2 (by assumption) (by assumption))] | (rw [rtk_no (by rw [rte_bad (by omega) (rb3 (by assumption) (by assumption))]; decide)]; rfl) | rw [rte_bad (by omega) (rb3 (by assumption) (by assumption))] | (rw [rtk_no (by rw [rte_bad (by omega) (rb4 (by assumption) (by assumption))]; decide)]; rfl) | rw [rte_bad (by omega) (rb4 (by assumption) (by assumption))] | (rw [rtk_no (by rw [rte_bad (by omega) (rb5 (by assumption) (by assumption))]; decide)]; rfl) | rw [rte_bad (by omega) (rb5 (by assumption) (by assumption))] | (rw [rtk_ok (rte_ok (by omega) (nb1 (by assumption) (by assumption) (by assumption)))]; rfl) | rw [rte_ok (by omega) (nb1 (by assumption) (by assumption) (by assumption))] | (rw [rtk_ok (rte_ok (by omega) (nb2 (by assumption) (by assumption)))]; rfl) | rw [rte_ok (by omega) (nb2 (by assumption) (by assumption))] | (rw [rtk_ok (rte_ok (by omega) (nb3 (by assumption) (by assumption) (by assumption) (by assumption)))]; rfl) | rw [rte_ok (by omega) (nb3 (by assumption) (by assumption) (by assumption) (by assumption))]) ?_
         exact T_fin () (by first | trivial | omega | (simp; done)) (resct 0 rfl rfl rfl Try.underlying43 rfl kr rfl) [] ⟨by decide, rfl⟩ rfl
        ·
         refine T_slot 40 (.bool ((ath (wds b 4) 2) != 0#64)) (.bool false) rfl (congrArg _ hc_53) ?_
         refine T_slot 38 (.bool ((ath (wds b 4) 2) != 0#64)) (.bool false) rfl (congrArg _ hc_53) ?_
         refine T_slot 39 (.bool ((ath (wds b 4) 2) != 0#64)) (.bool false) rfl (congrArg _ hc_53) ?_
         have hc_53 : (ath (wds b 4) 2) = 0#64 := by simpa using hc_53
         refine lm rfl rfl rfl rfl rfl ?_
         refine lo rfl (pr_cmp (bo := .neq) (n64_bne (ath (wds b 4) 3) (0#64)) rfl rfl rfl rfl) rfl rfl ?_
         refine lo rfl (pr_pick_f rfl rfl rfl) rfl rfl ?_
         refine lo rfl (pr_pick_t rfl rfl rfl) rfl rfl ?_
         refine lo rfl (pr_pick_f rfl rfl rfl) rfl rfl ?_
         refine L_nil ?_
         refine T_cond ((ath (wds b 4) 3) != 0#64) rfl (fun hc_54 => ?_) (fun hc_54 => ?_)
         ·
          have hc_54 : ¬ (ath (wds b 4) 3) = 0#64 := by simpa using hc_54
          refine Tsr hF rfl ?_
          refine lo rfl (pr_build (qs := []) (v := .agg [(.bool false), (.int .i64 ((0 : Nat) : Int)), (.int .i64 ((0 : Nat) : Int)), (.int .i64 ((0 : Nat) : Int))].toArray) (fun _ => by kernel_rfl) rfl rfl) rfl rfl ?_
          refine L_op rfl (op_sto (n := 4) (vs := [(.bool false), (.int .i64 ((0 : Nat) : Int)), (.int .i64 ((0 : Nat) : Int)), (.int .i64 ((0 : Nat) : Int))]) 0 rfl rfl kr (by simp [Value.oneCell']) kr kr rfl rfl rfl rfl ?_)
          refine la rfl rfl rfl rfl rfl ?_
          refine L_nil ?_
          refine T_ret ?_
          refine T_as 0 _ (.blk g1 43 [(.bool ((rtk b).d)), (.int .i64 (i64 (rtk b).k)), (.int .i64 (i64 (rtk b).v)), (.int .i64 (i64 (rtk b).s))]) rfl (by first | rfl | (rw [rtk_no (by rw [rte_short (by omega)]; decide)]; rfl) | rw [rte_short (by omega)] | (rw [rtk_no (by rw [rte_long (by omega)]; decide)]; rfl) | rw [rte_long (by omega)] | (rw [rtk_no (by rw [rte_bad (by omega) (rb1 (by assumption))]; decide)]; rfl) | rw [rte_bad (by omega) (rb1 (by assumption))] | (rw [rtk_no (by rw [rte_bad (by omega) (rb2 (by assumption) (by assumption))]; decide)]; rfl) | rw [rte_bad (by omega) (rb2 (by assumption) (by assumption))] | (rw [rtk_no (by rw [rte_bad (by omega) (rb3 (by assumption) (by assumption))]; decide)]; rfl) | rw [rte_bad (by omega) (rb3 (by assumption) (by assumption))] | (rw [rtk_no (by rw [rte_bad (by omega) (rb4 (by assumption) (by assumption))]; decide)]; rfl) | rw [rte_bad (by omega) (rb4 (by assumption) (by assumption))] | (rw [rtk_no (by rw [rte_bad (by omega) (rb5 (by assumption) (by assumption))]; decide)]; rfl) | rw [rte_bad (by omega) (rb5 (by assumption) (by assumption))] | (rw [rtk_ok (rte_ok (by omega) (nb1 (by assumption) (by assumption) (by assumption)))]; rfl) | rw [rte_ok (by omega) (nb1 (by assumption) (by assumption) (by assumption))] | (rw [rtk_ok (rte_ok (by omega) (nb2 (by assumption) (by assumption)))]; rfl) | rw [rte_ok (by omega) (nb2 (by assumption) (by assumption))] | (rw [rtk_ok (rte_ok (by omega) (nb3 (by assumption) (by assumption) (by assumption) (by assumption)))]; rfl) | rw [rte_ok (by omega) (nb3 (by assumption) (by assumption) (by assumption) (by assumption))]) ?_
          refine T_slot 3 (.int .i64 ((4 : Nat) : Int)) (.int .i64 (((rte b) : Nat) : Int)) rfl (by first | rfl | (rw [rtk_no (by rw [rte_short (by omega)]; decide)]; rfl) | rw [rte_short (by omega)] | (rw [rtk_no (by rw [rte_long (by omega)]; decide)]; rfl) | rw [rte_long (by omega)] | (rw [rtk_no (by rw [rte_bad (by omega) (rb1 (by assumption))]; decide)]; rfl) | rw [rte_bad (by omega) (rb1 (by assumption))] | (rw [rtk_no (by rw [rte_bad (by omega) (rb2 (by assumption) (by assumption))]; decide)]; rfl) | rw [rte_bad (by omega) (rb2 (by assumption) (by assumption))] | (rw [rtk_no (by rw [rte_bad (by omega) (rb3 (by assumption) (by assumption))]; decide)]; rfl) | rw [rte_bad (by omega) (rb3 (by assumption) (by assumption))] | (rw [rtk_no (by rw [rte_bad (by omega) (rb4 (by assumption) (by assumption))]; decide)]; rfl) | rw [rte_bad (by omega) (rb4 (by assumption) (by assumption))] | (rw [rtk_no (by rw [rte_bad (by omega) (rb5 (by assumption) (by assumption))]; decide)]; rfl) | rw [rte_bad (by omega) (rb5 (by assumption) (by assumption))] | (rw [rtk_ok (rte_ok (by omega) (nb1 (by assumption) (by assumption) (by assumption)))]; rfl) | rw [rte_ok (by omega) (nb1 (by assumption) (by assumption) (by assumption))] | (rw [rtk_ok (rte_ok (by omega) (nb2 (by assumption) (by assumption)))]; rfl) | rw [rte_ok (by omega) (nb2 (by assumption) (by assumption))] | (rw [rtk_ok (rte_ok (by omega) (nb3 (by assumption) (by assumption) (by assumption) (by assumption)))]; rfl) | rw [rte_ok (by omega) (nb3 (by assumption) (by assumption) (by assumption) (by assumption))]) ?_
          exact T_fin () (by first | trivial | omega | (simp; done)) (resct 0 rfl rfl rfl Try.underlying43 rfl kr rfl) [] ⟨by decide, rfl⟩ rfl
         ·
          have hc_54 : (ath (wds b 4) 3) = 0#64 := by simpa using hc_54
          refine T_skip ?_
          refine Tsr hF rfl ?_
          refine lm rfl rfl rfl rfl rfl ?_
          refine lo rfl (pr_cmp (bo := .eql) (n64_beq (ath (wds b 4) 0) (1#64)) rfl rfl rfl rfl) rfl rfl ?_
          refine lm rfl rfl rfl rfl rfl ?_
          refine lo rfl (pr_cv (zc_u64i (ath (wds b 4) 1)) Try.underlying30 Try.underlying2 rfl rfl) rfl rfl ?_
          refine lm rfl rfl rfl rfl rfl ?_
          refine lo rfl (pr_cv (zc_u64i (ath (wds b 4) 2)) Try.underlying30 Try.underlying2 rfl rfl) rfl rfl ?_
          refine lm rfl rfl rfl rfl rfl ?_
          refine lo rfl (pr_cv (zc_u64i (ath (wds b 4) 3)) Try.underlying30 Try.underlying2 rfl rfl) rfl rfl ?_
          refine lo rfl (pr_build (qs := [(0, (.bool ((ath (wds b 4) 0) == 1#64))), (1, (.int .i64 (i64 (ath (wds b 4) 1)))), (2, (.int .i64 (i64 (ath (wds b 4) 2)))), (3, (.int .i64 (i64 (ath (wds b 4) 3))))]) (v := .agg [(.bool ((ath (wds b 4) 0) == 1#64)), (.int .i64 (i64 (ath (wds b 4) 1))), (.int .i64 (i64 (ath (wds b 4) 2))), (.int .i64 (i64 (ath (wds b 4) 3)))].toArray) (fun _ => by kernel_rfl) rfl rfl) rfl rfl ?_
          refine L_op rfl (op_sto (n := 4) (vs := [(.bool ((ath (wds b 4) 0) == 1#64)), (.int .i64 (i64 (ath (wds b 4) 1))), (.int .i64 (i64 (ath (wds b 4) 2))), (.int .i64 (i64 (ath (wds b 4) 3)))]) 0 rfl rfl kr (by simp [Value.oneCell']) kr kr rfl rfl rfl rfl ?_)
          refine la rfl rfl rfl rfl rfl ?_
          refine L_nil ?_
          refine T_ret ?_
          refine T_as 0 _ (.blk g1 43 [(.bool ((rtk b).d)), (.int .i64 (i64 (rtk b).k)), (.int .i64 (i64 (rtk b).v)), (.int .i64 (i64 (rtk b).s))]) rfl (by first | rfl | (rw [rtk_no (by rw [rte_short (by omega)]; decide)]; rfl) | rw [rte_short (by omega)] | (rw [rtk_no (by rw [rte_long (by omega)]; decide)]; rfl) | rw [rte_long (by omega)] | (rw [rtk_no (by rw [rte_bad (by omega) (rb1 (by assumption))]; decide)]; rfl) | rw [rte_bad (by omega) (rb1 (by assumption))] | (rw [rtk_no (by rw [rte_bad (by omega) (rb2 (by assumption) (by assumption))]; decide)]; rfl) | rw [rte_bad (by omega) (rb2 (by assumption) (by assumption))] | (rw [rtk_no (by rw [rte_bad (by omega) (rb3 (by assumption) (by assumption))]; decide)]; rfl) | rw [rte_bad (by omega) (rb3 (by assumption) (by assumption))] | (rw [rtk_no (by rw [rte_bad (by omega) (rb4 (by assumption) (by assumption))]; decide)]; rfl) | rw [rte_bad (by omega) (rb4 (by assumption) (by assumption))] | (rw [rtk_no (by rw [rte_bad (by omega) (rb5 (by assumption) (by assumption))]; decide)]; rfl) | rw [rte_bad (by omega) (rb5 (by assumption) (by assumption))] | (rw [rtk_ok (rte_ok (by omega) (nb1 (by assumption) (by assumption) (by assumption)))]; rfl) | rw [rte_ok (by omega) (nb1 (by assumption) (by assumption) (by assumption))] | (rw [rtk_ok (rte_ok (by omega) (nb2 (by assumption) (by assumption)))]; rfl) | rw [rte_ok (by omega) (nb2 (by assumption) (by assumption))] | (rw [rtk_ok (rte_ok (by omega) (nb3 (by assumption) (by assumption) (by assumption) (by assumption)))]; rfl) | rw [rte_ok (by omega) (nb3 (by assumption) (by assumption) (by assumption) (by assumption))]) ?_
          refine T_slot 3 (.int .i64 ((0 : Nat) : Int)) (.int .i64 (((rte b) : Nat) : Int)) rfl (by first | rfl | (rw [rtk_no (by rw [rte_short (by omega)]; decide)]; rfl) | rw [rte_short (by omega)] | (rw [rtk_no (by rw [rte_long (by omega)]; decide)]; rfl) | rw [rte_long (by omega)] | (rw [rtk_no (by rw [rte_bad (by omega) (rb1 (by assumption))]; decide)]; rfl) | rw [rte_bad (by omega) (rb1 (by assumption))] | (rw [rtk_no (by rw [rte_bad (by omega) (rb2 (by assumption) (by assumption))]; decide)]; rfl) | rw [rte_bad (by omega) (rb2 (by assumption) (by assumption))] | (rw [rtk_no (by rw [rte_bad (by omega) (rb3 (by assumption) (by assumption))]; decide)]; rfl) | rw [rte_bad (by omega) (rb3 (by assumption) (by assumption))] | (rw [rtk_no (by rw [rte_bad (by omega) (rb4 (by assumption) (by assumption))]; decide)]; rfl) | rw [rte_bad (by omega) (rb4 (by assumption) (by assumption))] | (rw [rtk_no (by rw [rte_bad (by omega) (rb5 (by assumption) (by assumption))]; decide)]; rfl) | rw [rte_bad (by omega) (rb5 (by assumption) (by assumption))] | (rw [rtk_ok (rte_ok (by omega) (nb1 (by assumption) (by assumption) (by assumption)))]; rfl) | rw [rte_ok (by omega) (nb1 (by assumption) (by assumption) (by assumption))] | (rw [rtk_ok (rte_ok (by omega) (nb2 (by assumption) (by assumption)))]; rfl) | rw [rte_ok (by omega) (nb2 (by assumption) (by assumption))] | (rw [rtk_ok (rte_ok (by omega) (nb3 (by assumption) (by assumption) (by assumption) (by assumption)))]; rfl) | rw [rte_ok (by omega) (nb3 (by assumption) (by assumption) (by assumption) (by assumption))]) ?_
          exact T_fin () (by first | trivial | omega | (simp; done)) (resct 0 rfl rfl rfl Try.underlying43 rfl kr rfl) [] ⟨by decide, rfl⟩ rfl
      ·
       refine T_slot 33 (.bool ((ath (wds b 4) 0) == 1#64)) (.bool false) rfl (congrArg _ hc_51) ?_
       refine T_slot 32 (.bool ((ath (wds b 4) 0) == 1#64)) (.bool false) rfl (congrArg _ hc_51) ?_
       have hc_51 : ¬ (ath (wds b 4) 0) = 1#64 := by simpa using hc_51
       refine L_skip rfl rfl rfl ?_
       refine L_skip rfl rfl rfl ?_
       refine L_skip rfl rfl rfl ?_
       refine L_skip rfl rfl rfl ?_
       refine L_skip rfl rfl rfl ?_
       refine L_skip rfl rfl rfl ?_
       refine L_skip rfl rfl rfl ?_
       refine L_skip rfl rfl rfl ?_
       refine L_skip rfl rfl rfl ?_
       refine L_skip rfl rfl rfl ?_
       refine lo rfl (pr_pick_f rfl rfl rfl) rfl rfl ?_
       refine lo rfl (pr_pick_f rfl rfl rfl) rfl rfl ?_
       refine L_nil ?_
       refine T_cond_f rfl ?_
       refine T_skip ?_
       refine Tsr hF rfl ?_
       refine lm rfl rfl rfl rfl rfl ?_
       refine lo rfl (pr_cmp (bo := .eql) (n64_beq (ath (wds b 4) 0) (1#64)) rfl rfl rfl rfl) rfl rfl ?_
       refine lm rfl rfl rfl rfl rfl ?_
       refine lo rfl (pr_cv (zc_u64i (ath (wds b 4) 1)) Try.underlying30 Try.underlying2 rfl rfl) rfl rfl ?_
       refine lm rfl rfl rfl rfl rfl ?_
       refine lo rfl (pr_cv (zc_u64i (ath (wds b 4) 2)) Try.underlying30 Try.underlying2 rfl rfl) rfl rfl ?_
       refine lm rfl rfl rfl rfl rfl ?_
       refine lo rfl (pr_cv (zc_u64i (ath (wds b 4) 3)) Try.underlying30 Try.underlying2 rfl rfl) rfl rfl ?_
       refine lo rfl (pr_build (qs := [(0, (.bool ((ath (wds b 4) 0) == 1#64))), (1, (.int .i64 (i64 (ath (wds b 4) 1)))), (2, (.int .i64 (i64 (ath (wds b 4) 2)))), (3, (.int .i64 (i64 (ath (wds b 4) 3))))]) (v := .agg [(.bool ((ath (wds b 4) 0) == 1#64)), (.int .i64 (i64 (ath (wds b 4) 1))), (.int .i64 (i64 (ath (wds b 4) 2))), (.int .i64 (i64 (ath (wds b 4) 3)))].toArray) (fun _ => by kernel_rfl) rfl rfl) rfl rfl ?_
       refine L_op rfl (op_sto (n := 4) (vs := [(.bool ((ath (wds b 4) 0) == 1#64)), (.int .i64 (i64 (ath (wds b 4) 1))), (.int .i64 (i64 (ath (wds b 4) 2))), (.int .i64 (i64 (ath (wds b 4) 3)))]) 0 rfl rfl kr (by simp [Value.oneCell']) kr kr rfl rfl rfl rfl ?_)
       refine la rfl rfl rfl rfl rfl ?_
       refine L_nil ?_
       refine T_ret ?_
       refine T_as 0 _ (.blk g1 43 [(.bool ((rtk b).d)), (.int .i64 (i64 (rtk b).k)), (.int .i64 (i64 (rtk b).v)), (.int .i64 (i64 (rtk b).s))]) rfl (by first | rfl | (rw [rtk_no (by rw [rte_short (by omega)]; decide)]; rfl) | rw [rte_short (by omega)] | (rw [rtk_no (by rw [rte_long (by omega)]; decide)]; rfl) | rw [rte_long (by omega)] | (rw [rtk_no (by rw [rte_bad (by omega) (rb1 (by assumption))]; decide)]; rfl) | rw [rte_bad (by omega) (rb1 (by assumption))] | (rw [rtk_no (by rw [rte_bad (by omega) (rb2 (by assumption) (by assumption))]; decide)]; rfl) | rw [rte_bad (by omega) (rb2 (by assumption) (by assumption))] | (rw [rtk_no (by rw [rte_bad (by omega) (rb3 (by assumption) (by assumption))]; decide)]; rfl) | rw [rte_bad (by omega) (rb3 (by assumption) (by assumption))] | (rw [rtk_no (by rw [rte_bad (by omega) (rb4 (by assumption) (by assumption))]; decide)]; rfl) | rw [rte_bad (by omega) (rb4 (by assumption) (by assumption))] | (rw [rtk_no (by rw [rte_bad (by omega) (rb5 (by assumption) (by assumption))]; decide)]; rfl) | rw [rte_bad (by omega) (rb5 (by assumption) (by assumption))] | (rw [rtk_ok (rte_ok (by omega) (nb1 (by assumption) (by assumption) (by assumption)))]; rfl) | rw [rte_ok (by omega) (nb1 (by assumption) (by assumption) (by assumption))] | (rw [rtk_ok (rte_ok (by omega) (nb2 (by assumption) (by assumption)))]; rfl) | rw [rte_ok (by omega) (nb2 (by assumption) (by assumption))] | (rw [rtk_ok (rte_ok (by omega) (nb3 (by assumption) (by assumption) (by assumption) (by assumption)))]; rfl) | rw [rte_ok (by omega) (nb3 (by assumption) (by assumption) (by assumption) (by assumption))]) ?_
       refine T_slot 3 (.int .i64 ((0 : Nat) : Int)) (.int .i64 (((rte b) : Nat) : Int)) rfl (by first | rfl | (rw [rtk_no (by rw [rte_short (by omega)]; decide)]; rfl) | rw [rte_short (by omega)] | (rw [rtk_no (by rw [rte_long (by omega)]; decide)]; rfl) | rw [rte_long (by omega)] | (rw [rtk_no (by rw [rte_bad (by omega) (rb1 (by assumption))]; decide)]; rfl) | rw [rte_bad (by omega) (rb1 (by assumption))] | (rw [rtk_no (by rw [rte_bad (by omega) (rb2 (by assumption) (by assumption))]; decide)]; rfl) | rw [rte_bad (by omega) (rb2 (by assumption) (by assumption))] | (rw [rtk_no (by rw [rte_bad (by omega) (rb3 (by assumption) (by assumption))]; decide)]; rfl) | rw [rte_bad (by omega) (rb3 (by assumption) (by assumption))] | (rw [rtk_no (by rw [rte_bad (by omega) (rb4 (by assumption) (by assumption))]; decide)]; rfl) | rw [rte_bad (by omega) (rb4 (by assumption) (by assumption))] | (rw [rtk_no (by rw [rte_bad (by omega) (rb5 (by assumption) (by assumption))]; decide)]; rfl) | rw [rte_bad (by omega) (rb5 (by assumption) (by assumption))] | (rw [rtk_ok (rte_ok (by omega) (nb1 (by assumption) (by assumption) (by assumption)))]; rfl) | rw [rte_ok (by omega) (nb1 (by assumption) (by assumption) (by assumption))] | (rw [rtk_ok (rte_ok (by omega) (nb2 (by assumption) (by assumption)))]; rfl) | rw [rte_ok (by omega) (nb2 (by assumption) (by assumption))] | (rw [rtk_ok (rte_ok (by omega) (nb3 (by assumption) (by assumption) (by assumption) (by assumption)))]; rfl) | rw [rte_ok (by omega) (nb3 (by assumption) (by assumption) (by assumption) (by assumption))]) ?_
       exact T_fin () (by first | trivial | omega | (simp; done)) (resct 0 rfl rfl rfl Try.underlying43 rfl kr rfl) [] ⟨by decide, rfl⟩ rfl
end Go.Proofs.Ytlplpmkdebemnaa
