/- Walks by facts, part 4: what the functions that the law reaches answer. No conditions but lengths. -/
import Derived.Test.YtlplpmkdebemnaaZBlockPlaces3
import Derived.Test.YtlplpmkdebemnaaProg
namespace Go.Proofs.Ytlplpmkdebemnaa
set_option linter.unusedVariables false
set_option linter.unusedSimpArgs false
set_option linter.unnecessarySimpa false
set_option maxRecDepth 100000
open Go.RowKit Bv Fw

/-- What may not be a record. -/
def RBad (w : List (BitVec 64)) : Prop := 1#64 < ath w 0 ∨ (ath w 0 = 1#64 ∧ (ath w 1 ≠ 0#64 ∨ ath w 2 ≠ 0#64 ∨ ath w 3 ≠ 0#64))
instance (w : List (BitVec 64)) : Decidable (RBad w) := by unfold RBad; infer_instance
/-- Why bytes are no record; the record that they are. -/
def rte (b : List (BitVec 8)) : Nat := if b.length < 32 then 3 else if 32 < b.length then 4 else if RBad (wds b 4) then 4 else 0
def rof (w : List (BitVec 64)) : Rc := ⟨ath w 0 == 1#64, ath w 1, ath w 2, ath w 3⟩
def rtk (b : List (BitVec 8)) : Rc := if rte b = 0 then rof (wds b 4) else rc0
theorem rte_short {b : List (BitVec 8)} (h : b.length < 32) : rte b = 3 := by unfold rte; rw [if_pos h]
theorem rte_long {b : List (BitVec 8)} (h : 32 < b.length) : rte b = 4 := by unfold rte; rw [if_neg (by omega), if_pos h]
theorem rte_bad {b : List (BitVec 8)} (hl : b.length = 32) (h : RBad (wds b 4)) : rte b = 4 := by unfold rte; rw [if_neg (by omega), if_neg (by omega), if_pos h]
theorem rte_ok {b : List (BitVec 8)} (hl : b.length = 32) (h : ¬ RBad (wds b 4)) : rte b = 0 := by unfold rte; rw [if_neg (by omega), if_neg (by omega), if_neg h]
theorem rtk_no {b : List (BitVec 8)} (h : rte b ≠ 0) : rtk b = rc0 := by unfold rtk; rw [if_neg h]
theorem rtk_ok {b : List (BitVec 8)} (h : rte b = 0) : rtk b = rof (wds b 4) := by unfold rtk; rw [if_pos h]
theorem wds4 (b : List (BitVec 8)) (hb : b.length = 32) : wds b 4 = [low (List.take 8 b) 8, low (List.take 8 (List.drop 8 b)) 8, low (List.take 8 (List.drop 16 b)) 8, low (List.drop 24 b) 8] := by
  have h : List.take 8 (List.drop 24 b) = List.drop 24 b := List.take_of_length_le (by simp; omega)
  simp [wds, h]
theorem i64_z (x : BitVec 64) : (i64 x == ((0 : Nat) : Int)) = (x == 0#64) := by
  rw [Bool.eq_iff_iff, beq_iff_eq, beq_iff_eq]
  unfold i64
  constructor
  · intro h; exact BitVec.toInt_inj.1 (by rw [h]; rfl)
  · rintro rfl; rfl
theorem rb1 {w : List (BitVec 64)} (h : 1#64 < ath w 0) : RBad w := .inl h
theorem rb2 {w : List (BitVec 64)} (h0 : ath w 0 = 1#64) (h : (!(((ath w 0 == 1#64) == true) && ((i64 (ath w 1) == ((0 : Nat) : Int)) && ((i64 (ath w 2) == ((0 : Nat) : Int)) && ((i64 (ath w 3) == ((0 : Nat) : Int)) && true))))) = true) : RBad w := by
  rw [i64_z, i64_z, i64_z, h0] at h
  refine .inr ⟨h0, ?_⟩
  by_cases h1 : ath w 1 = 0#64
  · by_cases h2 : ath w 2 = 0#64
    · by_cases h3 : ath w 3 = 0#64
      · simp [h1, h2, h3] at h
      · exact .inr (.inr h3)
    · exact .inr (.inl h2)
  · exact .inl h1
theorem nb1 {w : List (BitVec 64)} (h1 : ¬ 1#64 < ath w 0) (h0 : ath w 0 = 1#64) (h : (!(((ath w 0 == 1#64) == true) && ((i64 (ath w 1) == ((0 : Nat) : Int)) && ((i64 (ath w 2) == ((0 : Nat) : Int)) && ((i64 (ath w 3) == ((0 : Nat) : Int)) && true))))) = false) : ¬ RBad w := by
  rw [i64_z, i64_z, i64_z, h0] at h
  simp at h
  rintro (q | ⟨_, q | q | q⟩)
  · exact h1 q
  · exact q h.1
  · exact q h.2.1
  · exact q h.2.2
theorem nb2 {w : List (BitVec 64)} (h1 : ¬ 1#64 < ath w 0) (h0 : ¬ ath w 0 = 1#64) : ¬ RBad w := by
  rintro (q | ⟨q, _⟩)
  · exact h1 q
  · exact h0 q
theorem rb3 {w : List (BitVec 64)} (h0 : ath w 0 = 1#64) (h : ¬ ath w 1 = 0#64) : RBad w := .inr ⟨h0, .inl h⟩
theorem rb4 {w : List (BitVec 64)} (h0 : ath w 0 = 1#64) (h : ¬ ath w 2 = 0#64) : RBad w := .inr ⟨h0, .inr (.inl h)⟩
theorem rb5 {w : List (BitVec 64)} (h0 : ath w 0 = 1#64) (h : ¬ ath w 3 = 0#64) : RBad w := .inr ⟨h0, .inr (.inr h)⟩
theorem nb3 {w : List (BitVec 64)} (h1 : ¬ 1#64 < ath w 0) (q1 : ath w 1 = 0#64) (q2 : ath w 2 = 0#64) (q3 : ath w 3 = 0#64) : ¬ RBad w := by
  rintro (q | ⟨_, q | q | q⟩)
  · exact h1 q
  · exact q q1
  · exact q q2
  · exact q q3

set_option maxHeartbeats 4000000 in
theorem rtake_f (b : List (BitVec 8)) (A : Option Addr) (n : Nat) (c : Nat) (w : World) (hO : HOK [.rd A 1 n c (b.map b8)] w) (hb : b.length = n) (hn : n ≤ 1000000) : Calls Try.prog 45 [(.slice A n c)].toArray w (Ret (T := Unit) [] w (fun _ => True) (fun _ => (.tuple [(.agg [(.bool ((rtk b).d)), (.int .i64 (i64 (rtk b).k)), (.int .i64 (i64 (rtk b).v)), (.int .i64 (i64 (rtk b).s))].toArray), (.int .i64 (((rte b) : Nat) : Int))].toArray)) (fun _ => [])) := by
 have hF : Wid Fence.wide := wid_wide
 refine enter_m (c := _) Try.func45 rfl [] _ [.rd A 1 n c (b.map b8)] (by rw [Try.ntmps45]; rfl) (own_rds hO rfl) ?_
 rw [Try.ntmps45]
 refine T_re [(0, (.slice A n c))] (sc rfl sn) ?_
 refine T_he [0] [.rd A 1 n c (b.map b8)] ⟨by decide, rfl⟩ ?_
 refine Tsr hF rfl ?_
 refine L_op rfl (op_alloc (z := .agg [(.bool false), (.int .i64 ((0 : Nat) : Int)), (.int .i64 ((0 : Nat) : Int)), (.int .i64 ((0 : Nat) : Int))].toArray) (zs := [(.bool false), (.int .i64 ((0 : Nat) : Int)), (.int .i64 ((0 : Nat) : Int)), (.int .i64 ((0 : Nat) : Int))]) kr rfl rfl rfl rfl (fun g1 => ?_))
 refine la rfl rfl rfl rfl rfl ?_
 refine L_nil ?_
 refine T_seq ?_
 refine T_block ?_
 refine Tsr hF rfl ?_
 refine lm rfl rfl rfl rfl rfl ?_
 refine lo rfl (pr_len_sl Try.underlying23 rfl rfl) rfl rfl ?_
 refine lo rfl (pr_cmp (bo := .lss) (nc_lt (a := n) (b := 32)) rfl rfl rfl rfl) rfl rfl ?_
 refine la rfl rfl rfl rfl rfl ?_
 refine L_nil ?_
 refine T_cond (decide (n < 32)) rfl (fun hc_2 => ?_) (fun hc_2 => ?_)
 ·
  have hc_2 := of_decide_eq_true hc_2
  refine Tsr hF rfl ?_
  refine lo rfl (pr_build (qs := []) (v := .agg [(.bool false), (.int .i64 ((0 : Nat) : Int)), (.int .i64 ((0 : Nat) : Int)), (.int .i64 ((0 : Nat) : Int))].toArray) (fun _ => by kernel_rfl) rfl rfl) rfl rfl ?_
  refine L_op rfl (op_sto (n := 4) (vs := [(.bool false), (.int .i64 ((0 : Nat) : Int)), (.int .i64 ((0 : Nat) : Int)), (.int .i64 ((0 : Nat) : Int))]) 0 rfl rfl kr (by simp [Value.oneCell']) kr kr rfl rfl rfl rfl ?_)
  refine la rfl rfl rfl rfl rfl ?_
  refine L_nil ?_
  refine T_ret ?_
  refine T_as 0 _ (.blk g1 43 [(.bool ((rtk b).d)), (.int .i64 (i64 (rtk b).k)), (.int .i64 (i64 (rtk b).v)), (.int .i64 (i64 (rtk b).s))]) rfl (by first | rfl | (rw [rtk_no (by rw [rte_short (by omega)]; decide)]; rfl) | rw [rte_short (by omega)] | (rw [rtk_no (by rw [rte_long (by omega)]; decide)]; rfl) | rw [rte_long (by omega)] | (rw [rtk_no (by rw [rte_bad (by omega) (rb1 (by assumption))]; decide)]; rfl) | rw [rte_bad (by omega) (rb1 (by assumption))] | (rw [rtk_no (by rw [rte_bad (by omega) (rb2 (by assumption) (by assumption))]; decide)]; rfl) | rw [rte_bad (by omega) (rb2 (by assumption) (by assumption))] | (rw [rtk_no (by rw [rte_bad (by omega) (rb3 (by assumption) (by assumption))]; decide)]; rfl) | rw [rte_bad (by omega) (rb3 (by assumption) (by assumption))] | (rw [rtk_no (by rw [rte_bad (by omega) (rb4 (by assumption) (by assumption))]; decide)]; rfl) | rw [rte_bad (by omega) (rb4 (by assumption) (by assumption))] | (rw [rtk_no (by rw [rte_bad (by omega) (rb5 (by assumption) (by assumption))]; decide)]; rfl) | rw [rte_bad (by omega) (rb5 (by assumption) (by assumption))] | (rw [rtk_ok (rte_ok (by omega) (nb1 (by assumption) (by assumption) (by assumption)))]; rfl) | rw [rte_ok (by omega) (nb1 (by assumption) (by assumption) (by assumption))] | (rw [rtk_ok (rte_ok (by omega) (nb2 (by assumption) (by assumption)))]; rfl) | rw [rte_ok (by omega) (nb2 (by assumption) (by assumption))] | (rw [rtk_ok (rte_ok (by omega) (nb3 (by assumption) (by assumption) (by assumption) (by assumption)))]; rfl) | rw [rte_ok (by omega) (nb3 (by assumption) (by assumption) (by assumption) (by assumption))]) ?_
  refine T_slot 3 (.int .i64 ((3 : Nat) : Int)) (.int .i64 (((rte b) : Nat) : Int)) rfl (by first | rfl | (rw [rtk_no (by rw [rte_short (by omega)]; decide)]; rfl) | rw [rte_short (by omega)] | (rw [rtk_no (by rw [rte_long (by omega)]; decide)]; rfl) | rw [rte_long (by omega)] | (rw [rtk_no (by rw [rte_bad (by omega) (rb1 (by assumption))]; decide)]; rfl) | rw [rte_bad (by omega) (rb1 (by assumption))] | (rw [rtk_no (by rw [rte_bad (by omega) (rb2 (by assumption) (by assumption))]; decide)]; rfl) | rw [rte_bad (by omega) (rb2 (by assumption) (by assumption))] | (rw [rtk_no (by rw [rte_bad (by omega) (rb3 (by assumption) (by assumption))]; decide)]; rfl) | rw [rte_bad (by omega) (rb3 (by assumption) (by assumption))] | (rw [rtk_no (by rw [rte_bad (by omega) (rb4 (by assumption) (by assumption))]; decide)]; rfl) | rw [rte_bad (by omega) (rb4 (by assumption) (by assumption))] | (rw [rtk_no (by rw [rte_bad (by omega) (rb5 (by assumption) (by assumption))]; decide)]; rfl) | rw [rte_bad (by omega) (rb5 (by assumption) (by assumption))] | (rw [rtk_ok (rte_ok (by omega) (nb1 (by assumption) (by assumption) (by assumption)))]; rfl) | rw [rte_ok (by omega) (nb1 (by assumption) (by assumption) (by assumption))] | (rw [rtk_ok (rte_ok (by omega) (nb2 (by assumption) (by assumption)))]; rfl) | rw [rte_ok (by omega) (nb2 (by assumption) (by assumption))] | (rw [rtk_ok (rte_ok (by omega) (nb3 (by assumption) (by assumption) (by assumption) (by assumption)))]; rfl) | rw [rte_ok (by omega) (nb3 (by assumption) (by assumption) (by assumption) (by assumption))]) ?_
  exact T_finM0 () (by first | trivial | omega | (simp; done)) (resct 0 rfl rfl rfl Try.underlying43 rfl kr rfl) [] ⟨by decide, rfl⟩ rfl
 ·
  have hc_2 := of_decide_eq_false hc_2
  refine Tsr hF rfl ?_
  refine lm rfl rfl rfl rfl rfl ?_
  refine lo rfl (pr_len_sl Try.underlying23 rfl rfl) rfl rfl ?_
  refine lo rfl (pr_cmp (bo := .gtr) (nc_lt (a := 32) (b := n)) rfl rfl rfl rfl) rfl rfl ?_
  refine la rfl rfl rfl rfl rfl ?_
  refine L_nil ?_
  refine T_cond (decide (32 < n)) rfl (fun hc_3 => ?_) (fun hc_3 => ?_)
  ·
   have hc_3 := of_decide_eq_true hc_3
   refine Tsr hF rfl ?_
   refine lo rfl (pr_build (qs := []) (v := .agg [(.bool false), (.int .i64 ((0 : Nat) : Int)), (.int .i64 ((0 : Nat) : Int)), (.int .i64 ((0 : Nat) : Int))].toArray) (fun _ => by kernel_rfl) rfl rfl) rfl rfl ?_
   refine L_op rfl (op_sto (n := 4) (vs := [(.bool false), (.int .i64 ((0 : Nat) : Int)), (.int .i64 ((0 : Nat) : Int)), (.int .i64 ((0 : Nat) : Int))]) 0 rfl rfl kr (by simp [Value.oneCell']) kr kr rfl rfl rfl rfl ?_)
   refine la rfl rfl rfl rfl rfl ?_
   refine L_nil ?_
   refine T_ret ?_
   refine T_as 0 _ (.blk g1 43 [(.bool ((rtk b).d)), (.int .i64 (i64 (rtk b).k)), (.int .i64 (i64 (rtk b).v)), (.int .i64 (i64 (rtk b).s))]) rfl (by first | rfl | (rw [rtk_no (by rw [rte_short (by omega)]; decide)]; rfl) | rw [rte_short (by omega)] | (rw [rtk_no (by rw [rte_long (by omega)]; decide)]; rfl) | rw [rte_long (by omega)] | (rw [rtk_no (by rw [rte_bad (by omega) (rb1 (by assumption))]; decide)]; rfl) | rw [rte_bad (by omega) (rb1 (by assumption))] | (rw [rtk_no (by rw [rte_bad (by omega) (rb2 (by assumption) (by assumption))]; decide)]; rfl) | rw [rte_bad (by omega) (rb2 (by assumption) (by assumption))] | (rw [rtk_no (by rw [rte_bad (by omega) (rb3 (by assumption) (by assumption))]; decide)]; rfl) | rw [rte_bad (by omega) (rb3 (by assumption) (by assumption))] | (rw [rtk_no (by rw [rte_bad (by omega) (rb4 (by assumption) (by assumption))]; decide)]; rfl) | rw [rte_bad (by omega) (rb4 (by assumption) (by assumption))] | (rw [rtk_no (by rw [rte_bad (by omega) (rb5 (by assumption) (by assumption))]; decide)]; rfl) | rw [rte_bad (by omega) (rb5 (by assumption) (by assumption))] | (rw [rtk_ok (rte_ok (by omega) (nb1 (by assumption) (by assumption) (by assumption)))]; rfl) | rw [rte_ok (by omega) (nb1 (by assumption) (by assumption) (by assumption))] | (rw [rtk_ok (rte_ok (by omega) (nb2 (by assumption) (by assumption)))]; rfl) | rw [rte_ok (by omega) (nb2 (by assumption) (by assumption))] | (rw [rtk_ok (rte_ok (by omega) (nb3 (by assumption) (by assumption) (by assumption) (by assumption)))]; rfl) | rw [rte_ok (by omega) (nb3 (by assumption) (by assumption) (by assumption) (by assumption))]) ?_
   refine T_slot 3 (.int .i64 ((4 : Nat) : Int)) (.int .i64 (((rte b) : Nat) : Int)) rfl (by first | rfl | (rw [rtk_no (by rw [rte_short (by omega)]; decide)]; rfl) | rw [rte_short (by omega)] | (rw [rtk_no (by rw [rte_long (by omega)]; decide)]; rfl) | rw [rte_long (by omega)] | (rw [rtk_no (by rw [rte_bad (by omega) (rb1 (by assumption))]; decide)]; rfl) | rw [rte_bad (by omega) (rb1 (by assumption))] | (rw [rtk_no (by rw [rte_bad (by omega) (rb2 (by assumption) (by assumption))]; decide)]; rfl) | rw [rte_bad (by omega) (rb2 (by assumption) (by assumption))] | (rw [rtk_no (by rw [rte_bad (by omega) (rb3 (by assumption) (by assumption))]; decide)]; rfl) | rw [rte_bad (by omega) (rb3 (by assumption) (by assumption))] | (rw [rtk_no (by rw [rte_bad (by omega) (rb4 (by assumption) (by assumption))]; decide)]; rfl) | rw [rte_bad (by omega) (rb4 (by assumption) (by assumption))] | (rw [rtk_no (by rw [rte_bad (by omega) (rb5 (by assumption) (by assumption))]; decide)]; rfl) | rw [rte_bad (by omega) (rb5 (by assumption) (by assumption))] | (rw [rtk_ok (rte_ok (by omega) (nb1 (by assumption) (by assumption) (by assumption)))]; rfl) | rw [rte_ok (by omega) (nb1 (by assumption) (by assumption) (by assumption))] | (rw [rtk_ok (rte_ok (by omega) (nb2 (by assumption) (by assumption)))]; rfl) | rw [rte_ok (by omega) (nb2 (by assumption) (by assumption))] | (rw [rtk_ok (rte_ok (by omega) (nb3 (by assumption) (by assumption) (by assumption) (by assumption)))]; rfl) | rw [rte_ok (by omega) (nb3 (by assumption) (by assumption) (by assumption) (by assumption))]) ?_
   exact T_finM0 () (by first | trivial | omega | (simp; done)) (resct 0 rfl rfl rfl Try.underlying43 rfl kr rfl) [] ⟨by decide, rfl⟩ rfl
  ·
   have hc_3 := of_decide_eq_false hc_3
   refine T_skip ?_
   refine Tsr hF rfl ?_
   refine L_op rfl (op_alloc (z := (.slice none 0 0)) (zs := [(.slice none 0 0)]) kr rfl rfl rfl rfl (fun g4 => ?_))
   refine L_nil ?_
   refine T_seq ?_
   refine Tsr hF rfl ?_
   refine lm rfl rfl rfl rfl rfl ?_
   refine L_op rfl (op_cn (fun w hw => chunk_f A n c 8 w (hok_nil w) sd) (enters_of Try.func44 kr rfl) rfl rfl rfl rfl rfl (fun t5 q6 => ?_))
   obtain ⟨g1_7, g2_8⟩ := t5
   refine L_nil ?_
   refine T_block ?_
   refine T_tord 0 rfl ?_
   refine T_tord 1 rfl ?_
   refine T_nilrow 30 1 ?_
   refine T_as 0 _ (.row (.slice none 0 0) 30 1 0 ((wds b 0).map b64)) rfl (by first | rfl | simp | (congr 1; simp)) ?_
   refine T_range (Θ := Option Addr) (T := Option Addr × Nat) (Tx := Unit) (cap := [(.pointer (some ⟨g1_7, 0, none⟩)), (.pointer (some ⟨g2_8, 0, none⟩))]) (ps := [19]) (chunk_seq b 8 A n c g1_7 g2_8 sd sd sd sd) rfl (enters_of Try.func65 kr rfl) (fun k ⟨A1, c1⟩ => k ≤ 4) (fun k ⟨A1, c1⟩ => [.row (.slice A1 k c1) 30 1 k ((wds b k).map b64), .rd (some ⟨g1_7, 0, none⟩) 1 1 1 [(.slice A n c)], .blk g4 69 [(.slice A1 k c1)], .blk g1 43 [(.bool false), (.int .i64 ((0 : Nat) : Int)), (.int .i64 ((0 : Nat) : Int)), (.int .i64 ((0 : Nat) : Int))], .rd A 1 n c (b.map b8)]) (fun _ => False) (fun _ => []) 0 (none, 0) (by omega) [0, 2, 3, 4, 5] ⟨by decide, rfl⟩ [2, 1, 5] rfl rfl (fun _ _ => rfl) (fun _ => rfl) (fun _ _ => rfl) (fun _ _ => rfl) rfl (fun _ => trivial) ?_ ?_ ?_
   ·
    intro C2 w2 lo2 rs2 l D m k t th rc hrec hk hp
    obtain ⟨A1, c1⟩ := t
    obtain ⟨B, rfl⟩ : ∃ x, x = th := ⟨_, rfl⟩
    have hp : k ≤ 4 := hp
    have hk : k < (n + 8 - 1) / 8 := hk
    have hF : Wid (Fence.wide.inRound l) := wid_round l
    refine T_re [(4, (.pointer (some ⟨g4, 0, none⟩))), (19, (.slice B (min 8 (n - 8 * k)) (min 8 (n - 8 * k))))] (sc rfl (sc rfl sn)) ?_
    refine T_he [0, 1, 2, 3, 4, 5, 6, 7] [.rd B 1 (min 8 (n - 8 * k)) (min 8 (n - 8 * k)) ((List.take (min 8 (n - 8 * k)) (List.drop (8 * k) b)).map b8), .obj l (.loop rc), .obj D (.deferred (some [])), .row (.slice A1 k c1) 30 1 k ((wds b k).map b64), .rd (some ⟨g1_7, 0, none⟩) 1 1 1 [(.slice A n c)], .blk g4 69 [(.slice A1 k c1)], .blk g1 43 [(.bool false), (.int .i64 ((0 : Nat) : Int)), (.int .i64 ((0 : Nat) : Int)), (.int .i64 ((0 : Nat) : Int))], .rd A 1 n c (b.map b8)] ⟨by decide, rfl⟩ ?_
    refine T_reg hF rfl ?_
    refine la rfl rfl rfl rfl rfl ?_
    refine L_nil ?_
    refine T_begun 1 rfl hrec ?_
    refine T_block ?_
    refine T_regD [.obj l (.loop { rc with state := .busy }), .rd B 1 (min 8 (n - 8 * k)) (min 8 (n - 8 * k)) ((List.take (min 8 (n - 8 * k)) (List.drop (8 * k) b)).map b8), .obj D (.deferred (some [])), .row (.slice A1 k c1) 30 1 k ((wds b k).map b64), .rd (some ⟨g1_7, 0, none⟩) 1 1 1 [(.slice A n c)], .blk g4 69 [(.slice A1 k c1)], .blk g1 43 [(.bool false), (.int .i64 ((0 : Nat) : Int)), (.int .i64 ((0 : Nat) : Int)), (.int .i64 ((0 : Nat) : Int))], .rd A 1 n c (b.map b8)] 4 6 #[false, false, false, false, false, false] hF kr kr ?_
    refine D_pure (i := 1) [0, 1, 2, 3, 4, 5, 6, 7] rfl kr rfl (pr_move rfl rfl) (.inr rfl) rfl rfl ?_
    refine D_take (i := 0) [0, 1, 2, 3, 4, 5, 6, 7] rfl kr rfl (ld_blk 5 rfl rfl Try.underlying69 rfl rfl rfl) rfl rfl rfl ?_
    refine D_one 2 _ rfl kr rfl (op_cn (fun w hw => low_f (List.take (min 8 (n - 8 * k)) (List.drop (8 * k) b)) 8 B (min 8 (n - 8 * k)) (min 8 (n - 8 * k)) w (hok_cons ((src_rd 1 rfl) w hw) (hok_nil w)) sd sd sd) (enters_of Try.func61 kr rfl) rfl rfl rfl rfl rfl (fun t9 q10 => ?_))
    refine D_on [0, 1, 2, 3, 4, 5, 6, 7] rfl ?_
    refine D_one 3 _ rfl kr rfl (op_bslice (e := 30) (zs := [(b64 (low (List.take (min 8 (n - 8 * k)) (List.drop (8 * k) b)) 8))]) (qs := [(0, (b64 (low (List.take (min 8 (n - 8 * k)) (List.drop (8 * k) b)) 8)))]) (fun _ => by kernel_rfl) rfl rfl rfl rfl (fun g11 => ?_))
    refine D_on [1, 2, 3, 4, 5, 6, 7, 8] rfl ?_
    refine D_one 4 _ rfl kr rfl (op_append (z := (b64 (0#64))) (size := 1) (bytes := 8) 4 rfl Try.underlying69 kr kr (by decide) (src_full (z := 1) 0 rfl rfl sd sd) (by simp [Value.oneCell']) sd sd rfl rfl rfl rfl rfl (fun A12 C13 => ?_))
    refine T_as 0 _ (.row (.slice A12 (k + 1) C13) 30 1 (k + 1) (((wds b k) ++ [(low (List.take (min 8 (n - 8 * k)) (List.drop (8 * k) b)) 8)]).map b64)) rfl (by first | rfl | (congr 1; simp; done) | (simp only [List.map_append]; rfl) | (rw [List.map_append]; rfl)) ?_
    refine D_past kr ?_
    refine D_one 5 _ rfl kr rfl (op_store (vs := [(.slice A12 (k + 1) C13)]) (cs' := [(.slice A12 (k + 1) C13)]) 6 rfl rfl kr (one_one rfl) (by first | decide | simp | exact Nat.le_refl _) rfl rfl rfl rfl rfl ?_)
    refine D_past kr ?_
    refine D_done kr ?_
    refine T_as 1 _ (.row (.slice A12 (k + 1) C13) 30 1 (k + 1) ((wds b (k + 1)).map b64)) rfl (by rw [wds, show min 8 (n - 8 * k) = 8 from by omega]) ?_
    exact T_on (A12, C13) (by dsimp only; omega) [3, 5, 0, 6, 1, 7, 8] ⟨by decide, rfl⟩
   ·
    intro D t hp
    obtain ⟨A1, c1⟩ := t
    have hp : ((n + 8 - 1) / 8) ≤ 4 := hp
    have hn4 : (n + 8 - 1) / 8 = 4 := by omega
    have hwl := wds_len b 4
    refine T_re [(2, (.pointer (some ⟨g1, 0, none⟩))), (4, (.pointer (some ⟨g4, 0, none⟩)))] (sc rfl (sc rfl sn)) ?_
    refine T_he [0, 1, 2, 3, 4, 5] [.obj D (.deferred (some [])), .row (.slice A1 ((n + 8 - 1) / 8) c1) 30 1 ((n + 8 - 1) / 8) ((wds b ((n + 8 - 1) / 8)).map b64), .rd (some ⟨g1_7, 0, none⟩) 1 1 1 [(.slice A n c)], .blk g4 69 [(.slice A1 ((n + 8 - 1) / 8) c1)], .blk g1 43 [(.bool false), (.int .i64 ((0 : Nat) : Int)), (.int .i64 ((0 : Nat) : Int)), (.int .i64 ((0 : Nat) : Int))], .rd A 1 n c (b.map b8)] ⟨by decide, rfl⟩ ?_
    refine T_as 1 _ (.row (.slice A1 4 c1) 30 1 4 ((wds b 4).map b64)) rfl (by rw [hn4]) ?_
    refine T_as 3 _ (.blk g4 69 [(.slice A1 4 c1)]) rfl (by rw [hn4]) ?_
    refine T_seq ?_
    refine T_regD [.blk g4 69 [(.slice A1 4 c1)], .row (.slice A1 4 c1) 30 1 4 ((wds b 4).map b64), .obj D (.deferred (some [])), .rd (some ⟨g1_7, 0, none⟩) 1 1 1 [(.slice A n c)], .blk g1 43 [(.bool false), (.int .i64 ((0 : Nat) : Int)), (.int .i64 ((0 : Nat) : Int)), (.int .i64 ((0 : Nat) : Int))], .rd A 1 n c (b.map b8)] 19 19 #[false, false, false, false, false, false, false, false, false, false, false, false, false, false, false, false, false, false, false] hF kr kr ?_
    refine D_take (i := 0) [0, 1, 2, 3, 4, 5] rfl kr rfl (ld_blk 0 rfl rfl Try.underlying69 rfl rfl rfl) rfl rfl rfl ?_
    refine D_pure (i := 1) [0, 1, 2, 3, 4, 5] rfl kr rfl (pr_ixs1 (j := 0) (src_none (src_row 1 rfl)) sd Try.underlying69 kr rfl rfl rfl) (.inr rfl) rfl rfl ?_
    refine D_take (i := 2) [0, 1, 2, 3, 4, 5] rfl kr rfl (ld_src (m := 0) (src_row 1 rfl) (get64 sd) Try.underlying30 rfl rfl rfl) rfl rfl rfl ?_
    refine D_pure (i := 3) [0, 1, 2, 3, 4, 5] rfl kr rfl (pr_cmp (bo := .eql) (n64_beq (ath (wds b 4) 0) (1#64)) rfl rfl rfl rfl) (.inr rfl) rfl rfl ?_
    refine D_take (i := 4) [0, 1, 2, 3, 4, 5] rfl kr rfl (ld_blk 0 rfl rfl Try.underlying69 rfl rfl rfl) rfl rfl rfl ?_
    refine D_pure (i := 5) [0, 1, 2, 3, 4, 5] rfl kr rfl (pr_ixs1 (j := 1) (src_none (src_row 1 rfl)) sd Try.underlying69 kr rfl rfl rfl) (.inr rfl) rfl rfl ?_
    refine D_take (i := 6) [0, 1, 2, 3, 4, 5] rfl kr rfl (ld_src (m := 1) (src_row 1 rfl) (get64 sd) Try.underlying30 rfl rfl rfl) rfl rfl rfl ?_
    refine D_pure (i := 7) [0, 1, 2, 3, 4, 5] rfl kr rfl (pr_cv (zc_u64i (ath (wds b 4) 1)) Try.underlying30 Try.underlying2 rfl rfl) (.inr rfl) rfl rfl ?_
    refine D_take (i := 8) [0, 1, 2, 3, 4, 5] rfl kr rfl (ld_blk 0 rfl rfl Try.underlying69 rfl rfl rfl) rfl rfl rfl ?_
    refine D_pure (i := 9) [0, 1, 2, 3, 4, 5] rfl kr rfl (pr_ixs1 (j := 2) (src_none (src_row 1 rfl)) sd Try.underlying69 kr rfl rfl rfl) (.inr rfl) rfl rfl ?_
    refine D_take (i := 10) [0, 1, 2, 3, 4, 5] rfl kr rfl (ld_src (m := 2) (src_row 1 rfl) (get64 sd) Try.underlying30 rfl rfl rfl) rfl rfl rfl ?_
    refine D_pure (i := 11) [0, 1, 2, 3, 4, 5] rfl kr rfl (pr_cv (zc_u64i (ath (wds b 4) 2)) Try.underlying30 Try.underlying2 rfl rfl) (.inr rfl) rfl rfl ?_
    refine D_take (i := 12) [0, 1, 2, 3, 4, 5] rfl kr rfl (ld_blk 0 rfl rfl Try.underlying69 rfl rfl rfl) rfl rfl rfl ?_
    refine D_pure (i := 13) [0, 1, 2, 3, 4, 5] rfl kr rfl (pr_ixs1 (j := 3) (src_none (src_row 1 rfl)) sd Try.underlying69 kr rfl rfl rfl) (.inr rfl) rfl rfl ?_
    refine D_take (i := 14) [0, 1, 2, 3, 4, 5] rfl kr rfl (ld_src (m := 3) (src_row 1 rfl) (get64 sd) Try.underlying30 rfl rfl rfl) rfl rfl rfl ?_
    refine D_pure (i := 15) [0, 1, 2, 3, 4, 5] rfl kr rfl (pr_cv (zc_u64i (ath (wds b 4) 3)) Try.underlying30 Try.underlying2 rfl rfl) (.inr rfl) rfl rfl ?_
    refine D_pure (i := 16) [0, 1, 2, 3, 4, 5] rfl kr rfl (pr_build (qs := [(0, (.bool ((ath (wds b 4) 0) == 1#64))), (1, (.int .i64 (i64 (ath (wds b 4) 1)))), (2, (.int .i64 (i64 (ath (wds b 4) 2)))), (3, (.int .i64 (i64 (ath (wds b 4) 3))))]) (v := .agg [(.bool ((ath (wds b 4) 0) == 1#64)), (.int .i64 (i64 (ath (wds b 4) 1))), (.int .i64 (i64 (ath (wds b 4) 2))), (.int .i64 (i64 (ath (wds b 4) 3)))].toArray) (fun _ => by kernel_rfl) rfl rfl) (.inr rfl) rfl rfl ?_
    refine D_one 17 _ rfl kr rfl (op_alloc (z := .agg [(.bool false), (.int .i64 ((0 : Nat) : Int)), (.int .i64 ((0 : Nat) : Int)), (.int .i64 ((0 : Nat) : Int))].toArray) (zs := [(.bool false), (.int .i64 ((0 : Nat) : Int)), (.int .i64 ((0 : Nat) : Int)), (.int .i64 ((0 : Nat) : Int))]) kr rfl rfl rfl rfl (fun g14 => ?_))
    refine D_on [1, 2, 3, 4, 5, 6] rfl ?_
    refine D_one 18 _ rfl kr rfl (op_sto (n := 4) (vs := [(.bool ((ath (wds b 4) 0) == 1#64)), (.int .i64 (i64 (ath (wds b 4) 1))), (.int .i64 (i64 (ath (wds b 4) 2))), (.int .i64 (i64 (ath (wds b 4) 3)))]) 0 rfl rfl kr (by simp [Value.oneCell']) kr kr rfl rfl rfl rfl ?_)
    refine D_on [1, 2, 3, 4, 5, 6] rfl ?_
    refine D_done kr ?_
    refine T_seq ?_
    refine T_seq ?_
    refine T_regD [.blk g14 43 [(.bool ((ath (wds b 4) 0) == 1#64)), (.int .i64 (i64 (ath (wds b 4) 1))), (.int .i64 (i64 (ath (wds b 4) 2))), (.int .i64 (i64 (ath (wds b 4) 3)))], .blk g4 69 [(.slice A1 4 c1)], .row (.slice A1 4 c1) 30 1 4 ((wds b 4).map b64), .obj D (.deferred (some [])), .rd (some ⟨g1_7, 0, none⟩) 1 1 1 [(.slice A n c)], .blk g1 43 [(.bool false), (.int .i64 ((0 : Nat) : Int)), (.int .i64 ((0 : Nat) : Int)), (.int .i64 ((0 : Nat) : Int))], .rd A 1 n c (b.map b8)] 13 13 #[false, false, false, false, false, false, false, false, false, false, false, false, false] hF kr kr ?_
    refine D_take (i := 0) [0, 1, 2, 3, 4, 5, 6] rfl kr rfl (ld_blk 1 rfl rfl Try.underlying69 rfl rfl rfl) rfl rfl rfl ?_
    refine D_pure (i := 1) [0, 1, 2, 3, 4, 5, 6] rfl kr rfl (pr_ixs1 (j := 0) (src_none (src_row 2 rfl)) sd Try.underlying69 kr rfl rfl rfl) (.inr rfl) rfl rfl ?_
    refine D_take (i := 2) [0, 1, 2, 3, 4, 5, 6] rfl kr rfl (ld_src (m := 0) (src_row 2 rfl) (get64 sd) Try.underlying30 rfl rfl rfl) rfl rfl rfl ?_
    refine D_pure (i := 3) [0, 1, 2, 3, 4, 5, 6] rfl kr rfl (pr_cmp (bo := .gtr) (cm_lt64 (1#64) (ath (wds b 4) 0)) rfl rfl rfl rfl) (.inr rfl) rfl rfl ?_
    refine D_pure (i := 4) [0, 1, 2, 3, 4, 5, 6] rfl kr rfl (pr_move rfl rfl) (.inr rfl) rfl rfl ?_
    rcases Bool.eq_false_or_eq_true (decide (1#64 < (ath (wds b 4) 0))) with hc_15 | hc_15
    ·
     refine T_slot 45 (.bool (decide (1#64 < (ath (wds b 4) 0)))) (.bool true) rfl (congrArg _ hc_15) ?_
     refine T_slot 46 (.bool (decide (1#64 < (ath (wds b 4) 0)))) (.bool true) rfl (congrArg _ hc_15) ?_
     have hc_15 := of_decide_eq_true hc_15
     refine D_pass (i := 5) [0, 1, 2, 3, 4, 5, 6] rfl kr rfl (.inr rfl) rfl rfl ?_
     refine D_pass (i := 6) [0, 1, 2, 3, 4, 5, 6] rfl kr rfl (.inr rfl) rfl rfl ?_
     refine D_pass (i := 7) [0, 1, 2, 3, 4, 5, 6] rfl kr rfl (.inr rfl) rfl rfl ?_
     refine D_pass (i := 8) [0, 1, 2, 3, 4, 5, 6] rfl kr rfl (.inr rfl) rfl rfl ?_
     refine D_pass (i := 9) [0, 1, 2, 3, 4, 5, 6] rfl kr rfl (.inr rfl) rfl rfl ?_
     refine D_pass (i := 10) [0, 1, 2, 3, 4, 5, 6] rfl kr rfl (.inr rfl) rfl rfl ?_
     refine D_pass (i := 11) [0, 1, 2, 3, 4, 5, 6] rfl kr rfl (.inr rfl) rfl rfl ?_
     refine D_pure (i := 12) [0, 1, 2, 3, 4, 5, 6] rfl kr rfl (pr_pick_t rfl rfl rfl) (.inr rfl) rfl rfl ?_
     refine D_done kr ?_
     refine T_cond_t rfl ?_
     refine Tsr hF rfl ?_
     refine lo rfl (pr_build (qs := []) (v := .agg [(.bool false), (.int .i64 ((0 : Nat) : Int)), (.int .i64 ((0 : Nat) : Int)), (.int .i64 ((0 : Nat) : Int))].toArray) (fun _ => by kernel_rfl) rfl rfl) rfl rfl ?_
     refine L_op rfl (op_sto (n := 4) (vs := [(.bool false), (.int .i64 ((0 : Nat) : Int)), (.int .i64 ((0 : Nat) : Int)), (.int .i64 ((0 : Nat) : Int))]) 5 rfl rfl kr (by simp [Value.oneCell']) kr kr rfl rfl rfl rfl ?_)
     refine la rfl rfl rfl rfl rfl ?_
     refine L_nil ?_
     refine T_ret ?_
     refine T_as 0 _ (.blk g1 43 [(.bool ((rtk b).d)), (.int .i64 (i64 (rtk b).k)), (.int .i64 (i64 (rtk b).v)), (.int .i64 (i64 (rtk b).s))]) rfl (by first | rfl | (rw [rtk_no (by rw [rte_short (by omega)]; decide)]; rfl) | rw [rte_short (by omega)] | (rw [rtk_no (by rw [rte_long (by omega)]; decide)]; rfl) | rw [rte_long (by omega)] | (rw [rtk_no (by rw [rte_bad (by omega) (rb1 (by assumption))]; decide)]; rfl) | rw [rte_bad (by omega) (rb1 (by assumption))] | (rw [rtk_no (by rw [rte_bad (by omega) (rb2 (by assumption) (by assumption))]; decide)]; rfl) | rw [rte_bad (by omega) (rb2 (by assumption) (by assumption))] | (rw [rtk_no (by rw [rte_bad (by omega) (rb3 (by assumption) (by assumption))]; decide)]; rfl) | rw [rte_bad (by omega) (rb3 (by assumption) (by assumption))] | (rw [rtk_no (by rw [rte_bad (by omega) (rb4 (by assumption) (by assumption))]; decide)]; rfl) | rw [rte_bad (by omega) (rb4 (by assumption) (by assumption))] | (rw [rtk_no (by rw [rte_bad (by omega) (rb5 (by assumption) (by assumption))]; decide)]; rfl) | rw [rte_bad (by omega) (rb5 (by assumption) (by assumption))] | (rw [rtk_ok (rte_ok (by omega) (nb1 (by assumption) (by assumption) (by assumption)))]; rfl) | rw [rte_ok (by omega) (nb1 (by assumption) (by assumption) (by assumption))] | (rw [rtk_ok (rte_ok (by omega) (nb2 (by assumption) (by assumption)))]; rfl) | rw [rte_ok (by omega) (nb2 (by assumption) (by assumption))] | (rw [rtk_ok (rte_ok (by omega) (nb3 (by assumption) (by assumption) (by assumption) (by assumption)))]; rfl) | rw [rte_ok (by omega) (nb3 (by assumption) (by assumption) (by assumption) (by assumption))]) ?_
     refine T_slot 3 (.int .i64 ((4 : Nat) : Int)) (.int .i64 (((rte b) : Nat) : Int)) rfl (by first | rfl | (rw [rtk_no (by rw [rte_short (by omega)]; decide)]; rfl) | rw [rte_short (by omega)] | (rw [rtk_no (by rw [rte_long (by omega)]; decide)]; rfl) | rw [rte_long (by omega)] | (rw [rtk_no (by rw [rte_bad (by omega) (rb1 (by assumption))]; decide)]; rfl) | rw [rte_bad (by omega) (rb1 (by assumption))] | (rw [rtk_no (by rw [rte_bad (by omega) (rb2 (by assumption) (by assumption))]; decide)]; rfl) | rw [rte_bad (by omega) (rb2 (by assumption) (by assumption))] | (rw [rtk_no (by rw [rte_bad (by omega) (rb3 (by assumption) (by assumption))]; decide)]; rfl) | rw [rte_bad (by omega) (rb3 (by assumption) (by assumption))] | (rw [rtk_no (by rw [rte_bad (by omega) (rb4 (by assumption) (by assumption))]; decide)]; rfl) | rw [rte_bad (by omega) (rb4 (by assumption) (by assumption))] | (rw [rtk_no (by rw [rte_bad (by omega) (rb5 (by assumption) (by assumption))]; decide)]; rfl) | rw [rte_bad (by omega) (rb5 (by assumption) (by assumption))] | (rw [rtk_ok (rte_ok (by omega) (nb1 (by assumption) (by assumption) (by assumption)))]; rfl) | rw [rte_ok (by omega) (nb1 (by assumption) (by assumption) (by assumption))] | (rw [rtk_ok (rte_ok (by omega) (nb2 (by assumption) (by assumption)))]; rfl) | rw [rte_ok (by omega) (nb2 (by assumption) (by assumption))] | (rw [rtk_ok (rte_ok (by omega) (nb3 (by assumption) (by assumption) (by assumption) (by assumption)))]; rfl) | rw [rte_ok (by omega) (nb3 (by assumption) (by assumption) (by assumption) (by assumption))]) ?_
     exact T_finM 4 rfl () (by first | trivial | omega | (simp; done)) (resct 0 rfl rfl rfl Try.underlying43 rfl kr rfl) [] ⟨by decide, rfl⟩ rfl
    ·
     refine T_slot 45 (.bool (decide (1#64 < (ath (wds b 4) 0)))) (.bool false) rfl (congrArg _ hc_15) ?_
     refine T_slot 46 (.bool (decide (1#64 < (ath (wds b 4) 0)))) (.bool false) rfl (congrArg _ hc_15) ?_
     have hc_15 := of_decide_eq_false hc_15
     refine D_pure (i := 5) [0, 1, 2, 3, 4, 5, 6] rfl kr rfl (pr_fa (m := 0) (m' := 0) (z := 0) (by rfl) Try.underlying43 rfl kr rfl rfl) (.inr rfl) rfl rfl ?_
     refine D_take (i := 6) [0, 1, 2, 3, 4, 5, 6] rfl kr rfl (ld_blk 0 rfl rfl Try.underlying4 rfl rfl rfl) rfl rfl rfl ?_
     refine D_pure (i := 7) [0, 1, 2, 3, 4, 5, 6] rfl kr rfl (pr_move rfl rfl) (.inr rfl) rfl rfl ?_
     rcases Bool.eq_false_or_eq_true ((ath (wds b 4) 0) == 1#64) with hc_16 | hc_16
     ·
      refine T_slot 48 (.bool ((ath (wds b 4) 0) == 1#64)) (.bool true) rfl (congrArg _ hc_16) ?_
      refine T_slot 49 (.bool ((ath (wds b 4) 0) == 1#64)) (.bool true) rfl (congrArg _ hc_16) ?_
      have hc_16 : (ath (wds b 4) 0) = 1#64 := by simpa using hc_16
      refine D_take (i := 8) [0, 1, 2, 3, 4, 5, 6] rfl kr rfl (ld_agg (ds := [(.bool ((ath (wds b 4) 0) == 1#64)), (.int .i64 (i64 (ath (wds b 4) 1))), (.int .i64 (i64 (ath (wds b 4) 2))), (.int .i64 (i64 (ath (wds b 4) 3)))]) 0 rfl agg_all Try.underlying43 rfl kr rfl rfl) rfl rfl rfl ?_
      refine D_one 9 _ rfl kr rfl (op_cn (fun w hw => dead_f  w (hok_nil w) ) (enters_of Try.func36 kr rfl) rfl rfl rfl rfl rfl (fun t17 q18 => ?_))
      refine D_on [0, 1, 2, 3, 4, 5, 6] rfl ?_
      refine D_pure (i := 10) [0, 1, 2, 3, 4, 5, 6] rfl kr rfl (pr_eqs (bo := .neq) (c := ((((ath (wds b 4) 0) == 1#64) == true) && (((i64 (ath (wds b 4) 1)) == ((0 : Nat) : Int)) && (((i64 (ath (wds b 4) 2)) == ((0 : Nat) : Int)) && (((i64 (ath (wds b 4) 3)) == ((0 : Nat) : Int)) && true))))) (r := !((((ath (wds b 4) 0) == 1#64) == true) && (((i64 (ath (wds b 4) 1)) == ((0 : Nat) : Int)) && (((i64 (ath (wds b 4) 2)) == ((0 : Nat) : Int)) && (((i64 (ath (wds b 4) 3)) == ((0 : Nat) : Int)) && true))))) (fun _ _ => eqs Try.underlying43 kr (eqf rfl (part1 Try.underlying4 rfl rfl) (part1 Try.underlying4 rfl rfl) (eqv_b Try.underlying4) (eqf rfl (part1 Try.underlying2 rfl rfl) (part1 Try.underlying2 rfl rfl) (eqv_i (a := (i64 (ath (wds b 4) 1))) (b := ((0 : Nat) : Int)) Try.underlying2) (eqf rfl (part1 Try.underlying2 rfl rfl) (part1 Try.underlying2 rfl rfl) (eqv_i (a := (i64 (ath (wds b 4) 2))) (b := ((0 : Nat) : Int)) Try.underlying2) (eqf rfl (part1 Try.underlying2 rfl rfl) (part1 Try.underlying2 rfl rfl) (eqv_i (a := (i64 (ath (wds b 4) 3))) (b := ((0 : Nat) : Int)) Try.underlying2) eqf_nil))))) kr rfl rfl rfl rfl rfl) (.inr rfl) rfl rfl ?_
      refine D_pure (i := 11) [0, 1, 2, 3, 4, 5, 6] rfl kr rfl (pr_pick_t rfl rfl rfl) (.inr rfl) rfl rfl ?_
      refine D_pure (i := 12) [0, 1, 2, 3, 4, 5, 6] rfl kr rfl (pr_pick_f rfl rfl rfl) (.inr rfl) rfl rfl ?_
      refine D_done kr ?_
      refine T_cond (!((((ath (wds b 4) 0) == 1#64) == true) && (((i64 (ath (wds b 4) 1)) == ((0 : Nat) : Int)) && (((i64 (ath (wds b 4) 2)) == ((0 : Nat) : Int)) && (((i64 (ath (wds b 4) 3)) == ((0 : Nat) : Int)) && true))))) rfl (fun hc_19 => ?_) (fun hc_19 => ?_)
      ·
       refine Tsr hF rfl ?_
       refine lo rfl (pr_build (qs := []) (v := .agg [(.bool false), (.int .i64 ((0 : Nat) : Int)), (.int .i64 ((0 : Nat) : Int)), (.int .i64 ((0 : Nat) : Int))].toArray) (fun _ => by kernel_rfl) rfl rfl) rfl rfl ?_
       refine L_op rfl (op_sto (n := 4) (vs := [(.bool false), (.int .i64 ((0 : Nat) : Int)), (.int .i64 ((0 : Nat) : Int)), (.int .i64 ((0 : Nat) : Int))]) 5 rfl rfl kr (by simp [Value.oneCell']) kr kr rfl rfl rfl rfl ?_)
       refine la rfl rfl rfl rfl rfl ?_
       refine L_nil ?_
       refine T_ret ?_
       refine T_as 0 _ (.blk g1 43 [(.bool ((rtk b).d)), (.int .i64 (i64 (rtk b).k)), (.int .i64 (i64 (rtk b).v)), (.int .i64 (i64 (rtk b).s))]) rfl (by first | rfl | (rw [rtk_no (by rw [rte_short (by omega)]; decide)]; rfl) | rw [rte_short (by omega)] | (rw [rtk_no (by rw [rte_long (by omega)]; decide)]; rfl) | rw [rte_long (by omega)] | (rw [rtk_no (by rw [rte_bad (by omega) (rb1 (by assumption))]; decide)]; rfl) | rw [rte_bad (by omega) (rb1 (by assumption))] | (rw [rtk_no (by rw [rte_bad (by omega) (rb2 (by assumption) (by assumption))]; decide)]; rfl) | rw [rte_bad (by omega) (rb2 (by assumption) (by assumption))] | (rw [rtk_no (by rw [rte_bad (by omega) (rb3 (by assumption) (by assumption))]; decide)]; rfl) | rw [rte_bad (by omega) (rb3 (by assumption) (by assumption))] | (rw [rtk_no (by rw [rte_bad (by omega) (rb4 (by assumption) (by assumption))]; decide)]; rfl) | rw [rte_bad (by omega) (rb4 (by assumption) (by assumption))] | (rw [rtk_no (by rw [rte_bad (by omega) (rb5 (by assumption) (by assumption))]; decide)]; rfl) | rw [rte_bad (by omega) (rb5 (by assumption) (by assumption))] | (rw [rtk_ok (rte_ok (by omega) (nb1 (by assumption) (by assumption) (by assumption)))]; rfl) | rw [rte_ok (by omega) (nb1 (by assumption) (by assumption) (by assumption))] | (rw [rtk_ok (rte_ok (by omega) (nb2 (by assumption) (by assumption)))]; rfl) | rw [rte_ok (by omega) (nb2 (by assumption) (by assumption))] | (rw [rtk_ok (rte_ok (by omega) (nb3 (by assumption) (by assumption) (by assumption) (by assumption)))]; rfl) | rw [rte_ok (by omega) (nb3 (by assumption) (by assumption) (by assumption) (by assumption))]) ?_
       refine T_slot 3 (.int .i64 ((4 : Nat) : Int)) (.int .i64 (((rte b) : Nat) : Int)) rfl (by first | rfl | (rw [rtk_no (by rw [rte_short (by omega)]; decide)]; rfl) | rw [rte_short (by omega)] | (rw [rtk_no (by rw [rte_long (by omega)]; decide)]; rfl) | rw [rte_long (by omega)] | (rw [rtk_no (by rw [rte_bad (by omega) (rb1 (by assumption))]; decide)]; rfl) | rw [rte_bad (by omega) (rb1 (by assumption))] | (rw [rtk_no (by rw [rte_bad (by omega) (rb2 (by assumption) (by assumption))]; decide)]; rfl) | rw [rte_bad (by omega) (rb2 (by assumption) (by assumption))] | (rw [rtk_no (by rw [rte_bad (by omega) (rb3 (by assumption) (by assumption))]; decide)]; rfl) | rw [rte_bad (by omega) (rb3 (by assumption) (by assumption))] | (rw [rtk_no (by rw [rte_bad (by omega) (rb4 (by assumption) (by assumption))]; decide)]; rfl) | rw [rte_bad (by omega) (rb4 (by assumption) (by assumption))] | (rw [rtk_no (by rw [rte_bad (by omega) (rb5 (by assumption) (by assumption))]; decide)]; rfl) | rw [rte_bad (by omega) (rb5 (by assumption) (by assumption))] | (rw [rtk_ok (rte_ok (by omega) (nb1 (by assumption) (by assumption) (by assumption)))]; rfl) | rw [rte_ok (by omega) (nb1 (by assumption) (by assumption) (by assumption))] | (rw [rtk_ok (rte_ok (by omega) (nb2 (by assumption) (by assumption)))]; rfl) | rw [rte_ok (by omega) (nb2 (by assumption) (by assumption))] | (rw [rtk_ok (rte_ok (by omega) (nb3 (by assumption) (by assumption) (by assumption) (by assumption)))]; rfl) | rw [rte_ok (by omega) (nb3 (by assumption) (by assumption) (by assumption) (by assumption))]) ?_
       exact T_finM 4 rfl () (by first | trivial | omega | (simp; done)) (resct 0 rfl rfl rfl Try.underlying43 rfl kr rfl) [] ⟨by decide, rfl⟩ rfl
      ·
       refine T_skip ?_
       refine Tsr hF rfl ?_
       refine lq rfl (ld_agg (ds := [(.bool ((ath (wds b 4) 0) == 1#64)), (.int .i64 (i64 (ath (wds b 4) 1))), (.int .i64 (i64 (ath (wds b 4) 2))), (.int .i64 (i64 (ath (wds b 4) 3)))]) 0 rfl agg_all Try.underlying43 rfl kr rfl rfl) rfl rfl ?_
       refine L_op rfl (op_sto (n := 4) (vs := [(.bool ((ath (wds b 4) 0) == 1#64)), (.int .i64 (i64 (ath (wds b 4) 1))), (.int .i64 (i64 (ath (wds b 4) 2))), (.int .i64 (i64 (ath (wds b 4) 3)))]) 5 rfl rfl kr (by simp [Value.oneCell']) kr kr rfl rfl rfl rfl ?_)
       refine la rfl rfl rfl rfl rfl ?_
       refine L_nil ?_
       refine T_ret ?_
       refine T_as 0 _ (.blk g1 43 [(.bool ((rtk b).d)), (.int .i64 (i64 (rtk b).k)), (.int .i64 (i64 (rtk b).v)), (.int .i64 (i64 (rtk b).s))]) rfl (by first | rfl | (rw [rtk_no (by rw [rte_short (by omega)]; decide)]; rfl) | rw [rte_short (by omega)] | (rw [rtk_no (by rw [rte_long (by omega)]; decide)]; rfl) | rw [rte_long (by omega)] | (rw [rtk_no (by rw [rte_bad (by omega) (rb1 (by assumption))]; decide)]; rfl) | rw [rte_bad (by omega) (rb1 (by assumption))] | (rw [rtk_no (by rw [rte_bad (by omega) (rb2 (by assumption) (by assumption))]; decide)]; rfl) | rw [rte_bad (by omega) (rb2 (by assumption) (by assumption))] | (rw [rtk_no (by rw [rte_bad (by omega) (rb3 (by assumption) (by assumption))]; decide)]; rfl) | rw [rte_bad (by omega) (rb3 (by assumption) (by assumption))] | (rw [rtk_no (by rw [rte_bad (by omega) (rb4 (by assumption) (by assumption))]; decide)]; rfl) | rw [rte_bad (by omega) (rb4 (by assumption) (by assumption))] | (rw [rtk_no (by rw [rte_bad (by omega) (rb5 (by assumption) (by assumption))]; decide)]; rfl) | rw [rte_bad (by omega) (rb5 (by assumption) (by assumption))] | (rw [rtk_ok (rte_ok (by omega) (nb1 (by assumption) (by assumption) (by assumption)))]; rfl) | rw [rte_ok (by omega) (nb1 (by assumption) (by assumption) (by assumption))] | (rw [rtk_ok (rte_ok (by omega) (nb2 (by assumption) (by assumption)))]; rfl) | rw [rte_ok (by omega) (nb2 (by assumption) (by assumption))] | (rw [rtk_ok (rte_ok (by omega) (nb3 (by assumption) (by assumption) (by assumption) (by assumption)))]; rfl) | rw [rte_ok (by omega) (nb3 (by assumption) (by assumption) (by assumption) (by assumption))]) ?_
       refine T_slot 3 (.int .i64 ((0 : Nat) : Int)) (.int .i64 (((rte b) : Nat) : Int)) rfl (by first | rfl | (rw [rtk_no (by rw [rte_short (by omega)]; decide)]; rfl) | rw [rte_short (by omega)] | (rw [rtk_no (by rw [rte_long (by omega)]; decide)]; rfl) | rw [rte_long (by omega)] | (rw [rtk_no (by rw [rte_bad (by omega) (rb1 (by assumption))]; decide)]; rfl) | rw [rte_bad (by omega) (rb1 (by assumption))] | (rw [rtk_no (by rw [rte_bad (by omega) (rb2 (by assumption) (by assumption))]; decide)]; rfl) | rw [rte_bad (by omega) (rb2 (by assumption) (by assumption))] | (rw [rtk_no (by rw [rte_bad (by omega) (rb3 (by assumption) (by assumption))]; decide)]; rfl) | rw [rte_bad (by omega) (rb3 (by assumption) (by assumption))] | (rw [rtk_no (by rw [rte_bad (by omega) (rb4 (by assumption) (by assumption))]; decide)]; rfl) | rw [rte_bad (by omega) (rb4 (by assumption) (by assumption))] | (rw [rtk_no (by rw [rte_bad (by omega) (rb5 (by assumption) (by assumption))]; decide)]; rfl) | rw [rte_bad (by omega) (rb5 (by assumption) (by assumption))] | (rw [rtk_ok (rte_ok (by omega) (nb1 (by assumption) (by assumption) (by assumption)))]; rfl) | rw [rte_ok (by omega) (nb1 (by assumption) (by assumption) (by assumption))] | (rw [rtk_ok (rte_ok (by omega) (nb2 (by assumption) (by assumption)))]; rfl) | rw [rte_ok (by omega) (nb2 (by assumption) (by assumption))] | (rw [rtk_ok (rte_ok (by omega) (nb3 (by assumption) (by assumption) (by assumption) (by assumption)))]; rfl) | rw [rte_ok (by omega) (nb3 (by assumption) (by assumption) (by assumption) (by assumption))]) ?_
       exact T_finM 4 rfl () (by first | trivial | omega | (simp; done)) (resct 0 rfl rfl rfl Try.underlying43 rfl kr rfl) [] ⟨by decide, rfl⟩ rfl
     ·
      refine T_slot 48 (.bool ((ath (wds b 4) 0) == 1#64)) (.bool false) rfl (congrArg _ hc_16) ?_
      refine T_slot 49 (.bool ((ath (wds b 4) 0) == 1#64)) (.bool false) rfl (congrArg _ hc_16) ?_
      have hc_16 : ¬ (ath (wds b 4) 0) = 1#64 := by simpa using hc_16
      refine D_pass (i := 8) [0, 1, 2, 3, 4, 5, 6] rfl kr rfl (.inr rfl) rfl rfl ?_
      refine D_pass (i := 9) [0, 1, 2, 3, 4, 5, 6] rfl kr rfl (.inr rfl) rfl rfl ?_
      refine D_pass (i := 10) [0, 1, 2, 3, 4, 5, 6] rfl kr rfl (.inr rfl) rfl rfl ?_
      refine D_pure (i := 11) [0, 1, 2, 3, 4, 5, 6] rfl kr rfl (pr_pick_f rfl rfl rfl) (.inr rfl) rfl rfl ?_
      refine D_pure (i := 12) [0, 1, 2, 3, 4, 5, 6] rfl kr rfl (pr_pick_f rfl rfl rfl) (.inr rfl) rfl rfl ?_
      refine D_done kr ?_
      refine T_cond_f rfl ?_
      refine T_skip ?_
      refine Tsr hF rfl ?_
      refine lq rfl (ld_agg (ds := [(.bool ((ath (wds b 4) 0) == 1#64)), (.int .i64 (i64 (ath (wds b 4) 1))), (.int .i64 (i64 (ath (wds b 4) 2))), (.int .i64 (i64 (ath (wds b 4) 3)))]) 0 rfl agg_all Try.underlying43 rfl kr rfl rfl) rfl rfl ?_
      refine L_op rfl (op_sto (n := 4) (vs := [(.bool ((ath (wds b 4) 0) == 1#64)), (.int .i64 (i64 (ath (wds b 4) 1))), (.int .i64 (i64 (ath (wds b 4) 2))), (.int .i64 (i64 (ath (wds b 4) 3)))]) 5 rfl rfl kr (by simp [Value.oneCell']) kr kr rfl rfl rfl rfl ?_)
      refine la rfl rfl rfl rfl rfl ?_
      refine L_nil ?_
      refine T_ret ?_
      refine T_as 0 _ (.blk g1 43 [(.bool ((rtk b).d)), (.int .i64 (i64 (rtk b).k)), (.int .i64 (i64 (rtk b).v)), (.int .i64 (i64 (rtk b).s))]) rfl (by first | rfl | (rw [rtk_no (by rw [rte_short (by omega)]; decide)]; rfl) | rw [rte_short (by omega)] | (rw [rtk_no (by rw [rte_long (by omega)]; decide)]; rfl) | rw [rte_long (by omega)] | (rw [rtk_no (by rw [rte_bad (by omega) (rb1 (by assumption))]; decide)]; rfl) | rw [rte_bad (by omega) (rb1 (by assumption))] | (rw [rtk_no (by rw [rte_bad (by omega) (rb2 (by assumption) (by assumption))]; decide)]; rfl) | rw [rte_bad (by omega) (rb2 (by assumption) (by assumption))] | (rw [rtk_no (by rw [rte_bad (by omega) (rb3 (by assumption) (by assumption))]; decide)]; rfl) | rw [rte_bad (by omega) (rb3 (by assumption) (by assumption))] | (rw [rtk_no (by rw [rte_bad (by omega) (rb4 (by assumption) (by assumption))]; decide)]; rfl) | rw [rte_bad (by omega) (rb4 (by assumption) (by assumption))] | (rw [rtk_no (by rw [rte_bad (by omega) (rb5 (by assumption) (by assumption))]; decide)]; rfl) | rw [rte_bad (by omega) (rb5 (by assumption) (by assumption))] | (rw [rtk_ok (rte_ok (by omega) (nb1 (by assumption) (by assumption) (by assumption)))]; rfl) | rw [rte_ok (by omega) (nb1 (by assumption) (by assumption) (by assumption))] | (rw [rtk_ok (rte_ok (by omega) (nb2 (by assumption) (by assumption)))]; rfl) | rw [rte_ok (by omega) (nb2 (by assumption) (by assumption))] | (rw [rtk_ok (rte_ok (by omega) (nb3 (by assumption) (by assumption) (by assumption) (by assumption)))]; rfl) | rw [rte_ok (by omega) (nb3 (by assumption) (by assumption) (by assumption) (by assumption))]) ?_
      refine T_slot 3 (.int .i64 ((0 : Nat) : Int)) (.int .i64 (((rte b) : Nat) : Int)) rfl (by first | rfl | (rw [rtk_no (by rw [rte_short (by omega)]; decide)]; rfl) | rw [rte_short (by omega)] | (rw [rtk_no (by rw [rte_long (by omega)]; decide)]; rfl) | rw [rte_long (by omega)] | (rw [rtk_no (by rw [rte_bad (by omega) (rb1 (by assumption))]; decide)]; rfl) | rw [rte_bad (by omega) (rb1 (by assumption))] | (rw [rtk_no (by rw [rte_bad (by omega) (rb2 (by assumption) (by assumption))]; decide)]; rfl) | rw [rte_bad (by omega) (rb2 (by assumption) (by assumption))] | (rw [rtk_no (by rw [rte_bad (by omega) (rb3 (by assumption) (by assumption))]; decide)]; rfl) | rw [rte_bad (by omega) (rb3 (by assumption) (by assumption))] | (rw [rtk_no (by rw [rte_bad (by omega) (rb4 (by assumption) (by assumption))]; decide)]; rfl) | rw [rte_bad (by omega) (rb4 (by assumption) (by assumption))] | (rw [rtk_no (by rw [rte_bad (by omega) (rb5 (by assumption) (by assumption))]; decide)]; rfl) | rw [rte_bad (by omega) (rb5 (by assumption) (by assumption))] | (rw [rtk_ok (rte_ok (by omega) (nb1 (by assumption) (by assumption) (by assumption)))]; rfl) | rw [rte_ok (by omega) (nb1 (by assumption) (by assumption) (by assumption))] | (rw [rtk_ok (rte_ok (by omega) (nb2 (by assumption) (by assumption)))]; rfl) | rw [rte_ok (by omega) (nb2 (by assumption) (by assumption))] | (rw [rtk_ok (rte_ok (by omega) (nb3 (by assumption) (by assumption) (by assumption) (by assumption)))]; rfl) | rw [rte_ok (by omega) (nb3 (by assumption) (by assumption) (by assumption) (by assumption))]) ?_
      exact T_finM 4 rfl () (by first | trivial | omega | (simp; done)) (resct 0 rfl rfl rfl Try.underlying43 rfl kr rfl) [] ⟨by decide, rfl⟩ rfl
   ·
    exact fun D t hq => hq.elim
set_option maxHeartbeats 4000000 in
theorem rrtake_f (b : List (BitVec 8)) (A : Option Addr) (n : Nat) (c : Nat) (w : World) (hO : HOK [.rd A 1 n c (b.map b8)] w) (hb : b.length = n) (hn : n ≤ 1000000) : Calls Try.prog 46 [(.slice A n c)].toArray w (Ret (T := Unit) [] w (fun _ => True) (fun _ => (.tuple [(.agg [(.bool ((rtk b).d)), (.int .i64 (i64 (rtk b).k)), (.int .i64 (i64 (rtk b).v)), (.int .i64 (i64 (rtk b).s))].toArray), (.int .i64 (((rte b) : Nat) : Int))].toArray)) (fun _ => [])) := by
 have hF : Wid Fence.wide := wid_wide
 refine enter (c := _) Try.func46 rfl [] _ [.rd A 1 n c (b.map b8)] (by rw [Try.ntmps46]; rfl) (own_rds hO rfl) ?_
 rw [Try.ntmps46]
 refine T_re [(0, (.slice A n c))] (sc rfl sn) ?_
 refine T_he [0] [.rd A 1 n c (b.map b8)] ⟨by decide, rfl⟩ ?_
 refine Tsr hF rfl ?_
 refine L_op rfl (op_alloc (z := .agg [(.bool false), (.int .i64 ((0 : Nat) : Int)), (.int .i64 ((0 : Nat) : Int)), (.int .i64 ((0 : Nat) : Int))].toArray) (zs := [(.bool false), (.int .i64 ((0 : Nat) : Int)), (.int .i64 ((0 : Nat) : Int)), (.int .i64 ((0 : Nat) : Int))]) kr rfl rfl rfl rfl (fun g1 => ?_))
 refine la rfl rfl rfl rfl rfl ?_
 refine L_nil ?_
 refine T_seq ?_
 refine Tsr hF rfl ?_
 refine lm rfl rfl rfl rfl rfl ?_
 refine lo rfl (pr_len_sl Try.underlying23 rfl rfl) rfl rfl ?_
 refine lo rfl (pr_cmp (bo := .lss) (nc_lt (a := n) (b := 32)) rfl rfl rfl rfl) rfl rfl ?_
 refine L_nil ?_
 refine T_cond (decide (n < 32)) rfl (fun hc_2 => ?_) (fun hc_2 => ?_)
 ·
  have hc_2 := of_decide_eq_true hc_2
  refine Tsr hF rfl ?_
  refine lo rfl (pr_build (qs := []) (v := .agg [(.bool false), (.int .i64 ((0 : Nat) : Int)), (.int .i64 ((0 : Nat) : Int)), (.int .i64 ((0 : Nat) : Int))].toArray) (fun _ => by kernel_rfl) rfl rfl) rfl rfl ?_
  refine L_op rfl (op_sto (n := 4) (vs := [(.bool false), (.int .i64 ((0 : Nat) : Int)), (.int .i64 ((0 : Nat) : Int)), (.int .i64 ((0 : Nat) : Int))]) 0 rfl rfl kr (by simp [Value.oneCell']) kr kr rfl rfl rfl rfl ?_)
  refine la rfl rfl rfl rfl rfl ?_
  refine L_nil ?_
  refine T_ret ?_
  refine T_as 0 _ (.blk g1 43 [(.bool ((rtk b).d)), (.int .i64 (i64 (rtk b).k)), (.int .i64 (i64 (rtk b).v)), (.int .i64 (i64 (rtk b).s))]) rfl (by first | rfl | (rw [rtk_no (by rw [rte_short (by omega)]; decide)]; rfl) | rw [rte_short (by omega)] | (rw [rtk_no (by rw [rte_long (by omega)]; decide)]; rfl) | rw [rte_long (by omega)] | (rw [rtk_no (by rw [rte_bad (by omega) (rb1 (by assumption))]; decide)]; rfl) | rw [rte_bad (by omega) (rb1 (by assumption))] | (rw [rtk_no (by rw [rte_bad (by omega) (rb2 (by assumption) (by assumption))]; decide)]; rfl) | rw [rte_bad (by omega) (rb2 (by assumption) (by assumption))] | (rw [rtk_no (by rw [rte_bad (by omega) (rb3 (by assumption) (by assumption))]; decide)]; rfl) | rw [rte_bad (by omega) (rb3 (by assumption) (by assumption))] | (rw [rtk_no (by rw [rte_bad (by omega) (rb4 (by assumption) (by assumption))]; decide)]; rfl) | rw [rte_bad (by omega) (rb4 (by assumption) (by assumption))] | (rw [rtk_no (by rw [rte_bad (by omega) (rb5 (by assumption) (by assumption))]; decide)]; rfl) | rw [rte_bad (by omega) (rb5 (by assumption) (by assumption))] | (rw [rtk_ok (rte_ok (by omega) (nb1 (by assumption) (by assumption) (by assumption)))]; rfl) | rw [rte_ok (by omega) (nb1 (by assumption) (by assumption) (by assumption))] | (rw [rtk_ok (rte_ok (by omega) (nb2 (by assumption) (by assumption)))]; rfl) | rw [rte_ok (by omega) (nb2 (by assumption) (by assumption))] | (rw [rtk_ok (rte_ok (by omega) (nb3 (by assumption) (by assumption) (by assumption) (by assumption)))]; rfl) | rw [rte_ok (by omega) (nb3 (by assumption) (by assumption) (by assumption) (by assumption))]) ?_
  refine T_slot 3 (.int .i64 ((3 : Nat) : Int)) (.int .i64 (((rte b) : Nat) : Int)) rfl (by first | rfl | (rw [rtk_no (by rw [rte_short (by omega)]; decide)]; rfl) | rw [rte_short (by omega)] | (rw [rtk_no (by rw [rte_long (by omega)]; decide)]; rfl) | rw [rte_long (by omega)] | (rw [rtk_no (by rw [rte_bad (by omega) (rb1 (by assumption))]; decide)]; rfl) | rw [rte_bad (by omega) (rb1 (by assumption))] | (rw [rtk_no (by rw [rte_bad (by omega) (rb2 (by assumption) (by assumption))]; decide)]; rfl) | rw [rte_bad (by omega) (rb2 (by assumption) (by assumption))] | (rw [rtk_no (by rw [rte_bad (by omega) (rb3 (by assumption) (by assumption))]; decide)]; rfl) | rw [rte_bad (by omega) (rb3 (by assumption) (by assumption))] | (rw [rtk_no (by rw [rte_bad (by omega) (rb4 (by assumption) (by assumption))]; decide)]; rfl) | rw [rte_bad (by omega) (rb4 (by assumption) (by assumption))] | (rw [rtk_no (by rw [rte_bad (by omega) (rb5 (by assumption) (by assumption))]; decide)]; rfl) | rw [rte_bad (by omega) (rb5 (by assumption) (by assumption))] | (rw [rtk_ok (rte_ok (by omega) (nb1 (by assumption) (by assumption) (by assumption)))]; rfl) | rw [rte_ok (by omega) (nb1 (by assumption) (by assumption) (by assumption))] | (rw [rtk_ok (rte_ok (by omega) (nb2 (by assumption) (by assumption)))]; rfl) | rw [rte_ok (by omega) (nb2 (by assumption) (by assumption))] | (rw [rtk_ok (rte_ok (by omega) (nb3 (by assumption) (by assumption) (by assumption) (by assumption)))]; rfl) | rw [rte_ok (by omega) (nb3 (by assumption) (by assumption) (by assumption) (by assumption))]) ?_
  exact T_fin () (by first | trivial | omega | (simp; done)) (resct 0 rfl rfl rfl Try.underlying43 rfl kr rfl) [] ⟨by decide, rfl⟩ rfl
 ·
  have hc_2 := of_decide_eq_false hc_2
  refine T_skip ?_
  refine T_seq ?_
  refine Tsr hF rfl ?_
  refine lm rfl rfl rfl rfl rfl ?_
  refine lo rfl (pr_len_sl Try.underlying23 rfl rfl) rfl rfl ?_
  refine lo rfl (pr_cmp (bo := .gtr) (nc_lt (a := 32) (b := n)) rfl rfl rfl rfl) rfl rfl ?_
  refine L_nil ?_
  refine T_cond (decide (32 < n)) rfl (fun hc_3 => ?_) (fun hc_3 => ?_)
  ·
   have hc_3 := of_decide_eq_true hc_3
   refine Tsr hF rfl ?_
   refine lo rfl (pr_build (qs := []) (v := .agg [(.bool false), (.int .i64 ((0 : Nat) : Int)), (.int .i64 ((0 : Nat) : Int)), (.int .i64 ((0 : Nat) : Int))].toArray) (fun _ => by kernel_rfl) rfl rfl) rfl rfl ?_
   refine L_op rfl (op_sto (n := 4) (vs := [(.bool false), (.int .i64 ((0 : Nat) : Int)), (.int .i64 ((0 : Nat) : Int)), (.int .i64 ((0 : Nat) : Int))]) 0 rfl rfl kr (by simp [Value.oneCell']) kr kr rfl rfl rfl rfl ?_)
   refine la rfl rfl rfl rfl rfl ?_
   refine L_nil ?_
   refine T_ret ?_
   refine T_as 0 _ (.blk g1 43 [(.bool ((rtk b).d)), (.int .i64 (i64 (rtk b).k)), (.int .i64 (i64 (rtk b).v)), (.int .i64 (i64 (rtk b).s))]) rfl (by first | rfl | (rw [rtk_no (by rw [rte_short (by omega)]; decide)]; rfl) | rw [rte_short (by omega)] | (rw [rtk_no (by rw [rte_long (by omega)]; decide)]; rfl) | rw [rte_long (by omega)] | (rw [rtk_no (by rw [rte_bad (by omega) (rb1 (by assumption))]; decide)]; rfl) | rw [rte_bad (by omega) (rb1 (by assumption))] | (rw [rtk_no (by rw [rte_bad (by omega) (rb2 (by assumption) (by assumption))]; decide)]; rfl) | rw [rte_bad (by omega) (rb2 (by assumption) (by assumption))] | (rw [rtk_no (by rw [rte_bad (by omega) (rb3 (by assumption) (by assumption))]; decide)]; rfl) | rw [rte_bad (by omega) (rb3 (by assumption) (by assumption))] | (rw [rtk_no (by rw [rte_bad (by omega) (rb4 (by assumption) (by assumption))]; decide)]; rfl) | rw [rte_bad (by omega) (rb4 (by assumption) (by assumption))] | (rw [rtk_no (by rw [rte_bad (by omega) (rb5 (by assumption) (by assumption))]; decide)]; rfl) | rw [rte_bad (by omega) (rb5 (by assumption) (by assumption))] | (rw [rtk_ok (rte_ok (by omega) (nb1 (by assumption) (by assumption) (by assumption)))]; rfl) | rw [rte_ok (by omega) (nb1 (by assumption) (by assumption) (by assumption))] | (rw [rtk_ok (rte_ok (by omega) (nb2 (by assumption) (by assumption)))]; rfl) | rw [rte_ok (by omega) (nb2 (by assumption) (by assumption))] | (rw [rtk_ok (rte_ok (by omega) (nb3 (by assumption) (by assumption) (by assumption) (by assumption)))]; rfl) | rw [rte_ok (by omega) (nb3 (by assumption) (by assumption) (by assumption) (by assumption))]) ?_
   refine T_slot 3 (.int .i64 ((4 : Nat) : Int)) (.int .i64 (((rte b) : Nat) : Int)) rfl (by first | rfl | (rw [rtk_no (by rw [rte_short (by omega)]; decide)]; rfl) | rw [rte_short (by omega)] | (rw [rtk_no (by rw [rte_long (by omega)]; decide)]; rfl) | rw [rte_long (by omega)] | (rw [rtk_no (by rw [rte_bad (by omega) (rb1 (by assumption))]; decide)]; rfl) | rw [rte_bad (by omega) (rb1 (by assumption))] | (rw [rtk_no (by rw [rte_bad (by omega) (rb2 (by assumption) (by assumption))]; decide)]; rfl) | rw [rte_bad (by omega) (rb2 (by assumption) (by assumption))] | (rw [rtk_no (by rw [rte_bad (by omega) (rb3 (by assumption) (by assumption))]; decide)]; rfl) | rw [rte_bad (by omega) (rb3 (by assumption) (by assumption))] | (rw [rtk_no (by rw [rte_bad (by omega) (rb4 (by assumption) (by assumption))]; decide)]; rfl) | rw [rte_bad (by omega) (rb4 (by assumption) (by assumption))] | (rw [rtk_no (by rw [rte_bad (by omega) (rb5 (by assumption) (by assumption))]; decide)]; rfl) | rw [rte_bad (by omega) (rb5 (by assumption) (by assumption))] | (rw [rtk_ok (rte_ok (by omega) (nb1 (by assumption) (by assumption) (by assumption)))]; rfl) | rw [rte_ok (by omega) (nb1 (by assumption) (by assumption) (by assumption))] | (rw [rtk_ok (rte_ok (by omega) (nb2 (by assumption) (by assumption)))]; rfl) | rw [rte_ok (by omega) (nb2 (by assumption) (by assumption))] | (rw [rtk_ok (rte_ok (by omega) (nb3 (by assumption) (by assumption) (by assumption) (by assumption)))]; rfl) | rw [rte_ok (by omega) (nb3 (by assumption) (by assumption) (by assumption) (by assumption))]) ?_
   exact T_fin () (by first | trivial | omega | (simp; done)) (resct 0 rfl rfl rfl Try.underlying43 rfl kr rfl) [] ⟨by decide, rfl⟩ rfl
  ·
   have hc_3 := of_decide_eq_false hc_3
   refine T_skip ?_
   refine T_seq ?_
   refine T_regD [.blk g1 43 [(.bool false), (.int .i64 ((0 : Nat) : Int)), (.int .i64 ((0 : Nat) : Int)), (.int .i64 ((0 : Nat) : Int))], .rd A 1 n c (b.map b8)] 8 8 #[false, false, false, false, false, false, false, false] hF kr kr ?_
   refine D_pure (i := 0) [0, 1] rfl kr rfl (pr_move rfl rfl) (.inr rfl) rfl rfl ?_
   refine D_pure (i := 3) [0, 1] rfl kr rfl (pr_move rfl rfl) (.inr rfl) rfl rfl ?_
   refine D_join (T := Unit) (fun _ => True) (fun _ => [(0, (.slice A n c)), (2, (.pointer (some ⟨g1, 0, none⟩))), (4, (b64 (ath (wds b 4) 0))), (5, (b64 (ath (wds b 4) 1)))]) (fun _ => [.blk g1 43 [(.bool false), (.int .i64 ((0 : Nat) : Int)), (.int .i64 ((0 : Nat) : Int)), (.int .i64 ((0 : Nat) : Int))], .rd A 1 n c (b.map b8)]) ?_ ?_
   ·
    refine D_all [1, 4] kr (by simp) ⟨⟨_, rfl, rfl, ?_⟩, ⟨_, rfl, rfl, ?_⟩, trivial⟩
    ·
     refine id (op_slice_rd (l := 0) (u := 8) 1 rfl sd sd Try.underlying23 kr rfl rfl rfl ⟨_, rfl⟩ rfl rfl (fun B10 => ?_))
     refine T_as 0 _ (.rd B10 1 8 c ((List.take 8 b).map b8)) rfl (by congr 1; simp [List.map_take, List.map_drop] <;> omega) ?_
     refine T_slot 17 _ (.slice B10 8 c) rfl (by congr 1) ?_
     refine D_on [1, 2] rfl ?_
     refine D_all [2, 4] kr (by simp) ⟨⟨_, rfl, rfl, ?_⟩, ⟨_, rfl, rfl, ?_⟩, trivial⟩
     ·
      refine id (op_cn (fun w hw => number_f (List.take 8 b) B10 8 c w (hok_cons ((src_rd 0 rfl) w hw) (hok_nil w)) sd sd) (enters_of Try.func38 kr rfl) rfl rfl rfl rfl rfl (fun t11 q12 => ?_))
      refine T_slot 18 (b64 (low (List.take 8 b) 8)) (b64 (ath (wds b 4) 0)) rfl (by rw [wds4 b (by omega)]; rfl) ?_
      refine D_on [1, 2] rfl ?_
      refine D_one 4 _ rfl kr rfl (op_slice_rd (l := 8) (u := 16) 2 rfl sd sd Try.underlying23 kr rfl rfl ⟨_, rfl⟩ ⟨_, rfl⟩ rfl rfl (fun B13 => ?_))
      refine T_as 0 _ (.rd B13 1 (16 - 8) (c - 8) ((List.take (16 - 8) (List.drop 8 b)).map b8)) rfl (by congr 1; simp [List.map_take, List.map_drop] <;> omega) ?_
      refine D_on [2, 3] rfl ?_
      refine D_one 5 _ rfl kr rfl (op_cn (fun w hw => number_f (List.take (16 - 8) (List.drop 8 b)) B13 (16 - 8) (c - 8) w (hok_cons ((src_rd 0 rfl) w hw) (hok_nil w)) sd sd) (enters_of Try.func38 kr rfl) rfl rfl rfl rfl rfl (fun t14 q15 => ?_))
      refine T_slot 21 (b64 (low (List.take (16 - 8) (List.drop 8 b)) 8)) (b64 (ath (wds b 4) 1)) rfl (by rw [wds4 b (by omega)]; rfl) ?_
      refine D_on [2, 3] rfl ?_
      refine D_pure (i := 6) [2, 3] rfl kr rfl (pr_assign rfl rfl) (.inr rfl) rfl rfl ?_
      refine D_pure (i := 7) [2, 3] rfl kr rfl (pr_assign rfl rfl) (.inr rfl) rfl rfl ?_
      refine D_done kr ?_
      exact T_meet () trivial (sc rfl (sc rfl (sc rfl (sc rfl sn)))) [2, 3] ⟨by decide, rfl⟩
     ·
      refine id (op_slice_rd (l := 8) (u := 16) 2 rfl sd sd Try.underlying23 kr rfl rfl ⟨_, rfl⟩ ⟨_, rfl⟩ rfl rfl (fun B16 => ?_))
      refine T_as 0 _ (.rd B16 1 (16 - 8) (c - 8) ((List.take (16 - 8) (List.drop 8 b)).map b8)) rfl (by congr 1; simp [List.map_take, List.map_drop] <;> omega) ?_
      refine D_on [2, 3] rfl ?_
      refine D_one 2 _ rfl kr rfl (op_cn (fun w hw => number_f (List.take 8 b) B10 8 c w (hok_cons ((src_rd 1 rfl) w hw) (hok_nil w)) sd sd) (enters_of Try.func38 kr rfl) rfl rfl rfl rfl rfl (fun t17 q18 => ?_))
      refine T_slot 18 (b64 (low (List.take 8 b) 8)) (b64 (ath (wds b 4) 0)) rfl (by rw [wds4 b (by omega)]; rfl) ?_
      refine D_on [2, 3] rfl ?_
      refine D_one 5 _ rfl kr rfl (op_cn (fun w hw => number_f (List.take (16 - 8) (List.drop 8 b)) B16 (16 - 8) (c - 8) w (hok_cons ((src_rd 0 rfl) w hw) (hok_nil w)) sd sd) (enters_of Try.func38 kr rfl) rfl rfl rfl rfl rfl (fun t19 q20 => ?_))
      refine T_slot 21 (b64 (low (List.take (16 - 8) (List.drop 8 b)) 8)) (b64 (ath (wds b 4) 1)) rfl (by rw [wds4 b (by omega)]; rfl) ?_
      refine D_on [2, 3] rfl ?_
      refine D_pure (i := 6) [2, 3] rfl kr rfl (pr_assign rfl rfl) (.inr rfl) rfl rfl ?_
      refine D_pure (i := 7) [2, 3] rfl kr rfl (pr_assign rfl rfl) (.inr rfl) rfl rfl ?_
      refine D_done kr ?_
      exact T_meet () trivial (sc rfl (sc rfl (sc rfl (sc rfl sn)))) [2, 3] ⟨by decide, rfl⟩
    ·
     refine id (op_slice_rd (l := 8) (u := 16) 1 rfl sd sd Try.underlying23 kr rfl rfl ⟨_, rfl⟩ ⟨_, rfl⟩ rfl rfl (fun B21 => ?_))
     refine T_as 0 _ (.rd B21 1 (16 - 8) (c - 8) ((List.take (16 - 8) (List.drop 8 b)).map b8)) rfl (by congr 1; simp [List.map_take, List.map_drop] <;> omega) ?_
     refine D_on [1, 2] rfl ?_
     refine D_one 1 _ rfl kr rfl (op_slice_rd (l := 0) (u := 8) 2 rfl sd sd Try.underlying23 kr rfl rfl rfl ⟨_, rfl⟩ rfl rfl (fun B22 => ?_))
     refine T_as 0 _ (.rd B22 1 8 c ((List.take 8 b).map b8)) rfl (by congr 1; simp [List.map_take, List.map_drop] <;> omega) ?_
     refine T_slot 17 _ (.slice B22 8 c) rfl (by congr 1) ?_
     refine D_on [2, 3] rfl ?_
     refine D_one 2 _ rfl kr rfl (op_cn (fun w hw => number_f (List.take 8 b) B22 8 c w (hok_cons ((src_rd 0 rfl) w hw) (hok_nil w)) sd sd) (enters_of Try.func38 kr rfl) rfl rfl rfl rfl rfl (fun t23 q24 => ?_))
     refine T_slot 18 (b64 (low (List.take 8 b) 8)) (b64 (ath (wds b 4) 0)) rfl (by rw [wds4 b (by omega)]; rfl) ?_
     refine D_on [2, 3] rfl ?_
     refine D_one 5 _ rfl kr rfl (op_cn (fun w hw => number_f (List.take (16 - 8) (List.drop 8 b)) B21 (16 - 8) (c - 8) w (hok_cons ((src_rd 1 rfl) w hw) (hok_nil w)) sd sd) (enters_of Try.func38 kr rfl) rfl rfl rfl rfl rfl (fun t25 q26 => ?_))
     refine T_slot 21 (b64 (low (List.take (16 - 8) (List.drop 8 b)) 8)) (b64 (ath (wds b 4) 1)) rfl (by rw [wds4 b (by omega)]; rfl) ?_
     refine D_on [2, 3] rfl ?_
     refine D_pure (i := 6) [2, 3] rfl kr rfl (pr_assign rfl rfl) (.inr rfl) rfl rfl ?_
     refine D_pure (i := 7) [2, 3] rfl kr rfl (pr_assign rfl rfl) (.inr rfl) rfl rfl ?_
     refine D_done kr ?_
     exact T_meet () trivial (sc rfl (sc rfl (sc rfl (sc rfl sn)))) [2, 3] ⟨by decide, rfl⟩
   ·
    rintro ⟨⟩ -
    refine T_re [(0, (.slice A n c)), (2, (.pointer (some ⟨g1, 0, none⟩))), (4, (b64 (ath (wds b 4) 0))), (5, (b64 (ath (wds b 4) 1)))] (sc rfl (sc rfl (sc rfl (sc rfl sn)))) ?_
    refine T_he [0, 1] [.blk g1 43 [(.bool false), (.int .i64 ((0 : Nat) : Int)), (.int .i64 ((0 : Nat) : Int)), (.int .i64 ((0 : Nat) : Int))], .rd A 1 n c (b.map b8)] ⟨by decide, rfl⟩ ?_
    refine T_seq ?_
    refine T_regD [.blk g1 43 [(.bool false), (.int .i64 ((0 : Nat) : Int)), (.int .i64 ((0 : Nat) : Int)), (.int .i64 ((0 : Nat) : Int))], .rd A 1 n c (b.map b8)] 8 8 #[false, false, false, false, false, false, false, false] hF kr kr ?_
    refine D_pure (i := 0) [0, 1] rfl kr rfl (pr_move rfl rfl) (.inr rfl) rfl rfl ?_
    refine D_pure (i := 3) [0, 1] rfl kr rfl (pr_move rfl rfl) (.inr rfl) rfl rfl ?_
    refine D_join (T := Unit) (fun _ => True) (fun _ => [(2, (.pointer (some ⟨g1, 0, none⟩))), (4, (b64 (ath (wds b 4) 0))), (5, (b64 (ath (wds b 4) 1))), (6, (b64 (ath (wds b 4) 2))), (7, (b64 (ath (wds b 4) 3)))]) (fun _ => [.blk g1 43 [(.bool false), (.int .i64 ((0 : Nat) : Int)), (.int .i64 ((0 : Nat) : Int)), (.int .i64 ((0 : Nat) : Int))], .rd A 1 n c (b.map b8)]) ?_ ?_
    ·
     refine D_all [1, 4] kr (by simp) ⟨⟨_, rfl, rfl, ?_⟩, ⟨_, rfl, rfl, ?_⟩, trivial⟩
     ·
      refine id (op_slice_rd (l := 16) (u := 24) 1 rfl sd sd Try.underlying23 kr rfl rfl ⟨_, rfl⟩ ⟨_, rfl⟩ rfl rfl (fun B33 => ?_))
      refine T_as 0 _ (.rd B33 1 (24 - 16) (c - 16) ((List.take (24 - 16) (List.drop 16 b)).map b8)) rfl (by congr 1; simp [List.map_take, List.map_drop] <;> omega) ?_
      refine D_on [1, 2] rfl ?_
      refine D_all [2, 4] kr (by simp) ⟨⟨_, rfl, rfl, ?_⟩, ⟨_, rfl, rfl, ?_⟩, trivial⟩
      ·
       refine id (op_cn (fun w hw => number_f (List.take (24 - 16) (List.drop 16 b)) B33 (24 - 16) (c - 16) w (hok_cons ((src_rd 0 rfl) w hw) (hok_nil w)) sd sd) (enters_of Try.func38 kr rfl) rfl rfl rfl rfl rfl (fun t34 q35 => ?_))
       refine T_slot 24 (b64 (low (List.take (24 - 16) (List.drop 16 b)) 8)) (b64 (ath (wds b 4) 2)) rfl (by rw [wds4 b (by omega)]; rfl) ?_
       refine D_on [1, 2] rfl ?_
       refine D_one 4 _ rfl kr rfl (op_slice_rd (l := 24) (u := n) 2 rfl sd sd Try.underlying23 kr rfl rfl ⟨_, rfl⟩ rfl rfl rfl (fun B36 => ?_))
       refine T_as 0 _ (.rd B36 1 (n - 24) (c - 24) ((List.drop 24 b).map b8)) rfl (by congr 1; first | rfl | (rw [List.take_of_length_le (by simp; omega)]; simp)) ?_
       refine D_on [2, 3] rfl ?_
       refine D_one 5 _ rfl kr rfl (op_cn (fun w hw => number_f (List.drop 24 b) B36 (n - 24) (c - 24) w (hok_cons ((src_rd 0 rfl) w hw) (hok_nil w)) sd sd) (enters_of Try.func38 kr rfl) rfl rfl rfl rfl rfl (fun t37 q38 => ?_))
       refine T_slot 27 (b64 (low (List.drop 24 b) 8)) (b64 (ath (wds b 4) 3)) rfl (by rw [wds4 b (by omega)]; rfl) ?_
       refine D_on [2, 3] rfl ?_
       refine D_pure (i := 6) [2, 3] rfl kr rfl (pr_assign rfl rfl) (.inr rfl) rfl rfl ?_
       refine D_pure (i := 7) [2, 3] rfl kr rfl (pr_assign rfl rfl) (.inr rfl) rfl rfl ?_
       refine D_done kr ?_
       exact T_meet () trivial (sc rfl (sc rfl (sc rfl (sc rfl (sc rfl sn))))) [2, 3] ⟨by decide, rfl⟩
      ·
       refine id (op_slice_rd (l := 24) (u := n) 2 rfl sd sd Try.underlying23 kr rfl rfl ⟨_, rfl⟩ rfl rfl rfl (fun B39 => ?_))
       refine T_as 0 _ (.rd B39 1 (n - 24) (c - 24) ((List.drop 24 b).map b8)) rfl (by congr 1; first | rfl | (rw [List.take_of_length_le (by simp; omega)]; simp)) ?_
       refine D_on [2, 3] rfl ?_
       refine D_one 2 _ rfl kr rfl (op_cn (fun w hw => number_f (List.take (24 - 16) (List.drop 16 b)) B33 (24 - 16) (c - 16) w (hok_cons ((src_rd 1 rfl) w hw) (hok_nil w)) sd sd) (enters_of Try.func38 kr rfl) rfl rfl rfl rfl rfl (fun t40 q41 => ?_))
       refine T_slot 24 (b64 (low (List.take (24 - 16) (List.drop 16 b)) 8)) (b64 (ath (wds b 4) 2)) rfl (by rw [wds4 b (by omega)]; rfl) ?_
       refine D_on [2, 3] rfl ?_
       refine D_one 5 _ rfl kr rfl (op_cn (fun w hw => number_f (List.drop 24 b) B39 (n - 24) (c - 24) w (hok_cons ((src_rd 0 rfl) w hw) (hok_nil w)) sd sd) (enters_of Try.func38 kr rfl) rfl rfl rfl rfl rfl (fun t42 q43 => ?_))
       refine T_slot 27 (b64 (low (List.drop 24 b) 8)) (b64 (ath (wds b 4) 3)) rfl (by rw [wds4 b (by omega)]; rfl) ?_
       refine D_on [2, 3] rfl ?_
       refine D_pure (i := 6) [2, 3] rfl kr rfl (pr_assign rfl rfl) (.inr rfl) rfl rfl ?_
       refine D_pure (i := 7) [2, 3] rfl kr rfl (pr_assign rfl rfl) (.inr rfl) rfl rfl ?_
       refine D_done kr ?_
       exact T_meet () trivial (sc rfl (sc rfl (sc rfl (sc rfl (sc rfl sn))))) [2, 3] ⟨by decide, rfl⟩
     ·
      refine id (op_slice_rd (l := 24) (u := n) 1 rfl sd sd Try.underlying23 kr rfl rfl ⟨_, rfl⟩ rfl rfl rfl (fun B44 => ?_))
      refine T_as 0 _ (.rd B44 1 (n - 24) (c - 24) ((List.drop 24 b).map b8)) rfl (by congr 1; first | rfl | (rw [List.take_of_length_le (by simp; omega)]; simp)) ?_
      refine D_on [1, 2] rfl ?_
      refine D_one 1 _ rfl kr rfl (op_slice_rd (l := 16) (u := 24) 2 rfl sd sd Try.underlying23 kr rfl rfl ⟨_, rfl⟩ ⟨_, rfl⟩ rfl rfl (fun B45 => ?_))
      refine T_as 0 _ (.rd B45 1 (24 - 16) (c - 16) ((List.take (24 - 16) (List.drop 16 b)).map b8)) rfl (by congr 1; simp [List.map_take, List.map_drop] <;> omega) ?_
      refine D_on [2, 3] rfl ?_
      refine D_one 2 _ rfl kr rfl (op_cn (fun w hw => number_f (List.take (24 - 16) (List.drop 16 b)) B45 (24 - 16) (c - 16) w (hok_cons ((src_rd 0 rfl) w hw) (hok_nil w)) sd sd) (enters_of Try.func38 kr rfl) rfl rfl rfl rfl rfl (fun t46 q47 => ?_))
      refine T_slot 24 (b64 (low (List.take (24 - 16) (List.drop 16 b)) 8)) (b64 (ath (wds b 4) 2)) rfl (by rw [wds4 b (by omega)]; rfl) ?_
      refine D_on [2, 3] rfl ?_
      refine D_one 5 _ rfl kr rfl (op_cn (fun w hw => number_f (List.drop 24 b) B44 (n - 24) (c - 24) w (hok_cons ((src_rd 1 rfl) w hw) (hok_nil w)) sd sd) (enters_of Try.func38 kr rfl) rfl rfl rfl rfl rfl (fun t48 q49 => ?_))
      refine T_slot 27 (b64 (low (List.drop 24 b) 8)) (b64 (ath (wds b 4) 3)) rfl (by rw [wds4 b (by omega)]; rfl) ?_
      refine D_on [2, 3] rfl ?_
      refine D_pure (i := 6) [2, 3] rfl kr rfl (pr_assign rfl rfl) (.inr rfl) rfl rfl ?_
      refine D_pure (i := 7) [2, 3] rfl kr rfl (pr_assign rfl rfl) (.inr rfl) rfl rfl ?_
      refine D_done kr ?_
      exact T_meet () trivial (sc rfl (sc rfl (sc rfl (sc rfl (sc rfl sn))))) [2, 3] ⟨by decide, rfl⟩
    ·
     rintro ⟨⟩ -
     refine T_re [(2, (.pointer (some ⟨g1, 0, none⟩))), (4, (b64 (ath (wds b 4) 0))), (5, (b64 (ath (wds b 4) 1))), (6, (b64 (ath (wds b 4) 2))), (7, (b64 (ath (wds b 4) 3)))] (sc rfl (sc rfl (sc rfl (sc rfl (sc rfl sn))))) ?_
     refine T_he [0, 1] [.blk g1 43 [(.bool false), (.int .i64 ((0 : Nat) : Int)), (.int .i64 ((0 : Nat) : Int)), (.int .i64 ((0 : Nat) : Int))], .rd A 1 n c (b.map b8)] ⟨by decide, rfl⟩ ?_
     refine T_seq ?_
     refine Tsr hF rfl ?_
     refine lm rfl rfl rfl rfl rfl ?_
     refine lo rfl (pr_cmp (bo := .gtr) (cm_lt64 (1#64) (ath (wds b 4) 0)) rfl rfl rfl rfl) rfl rfl ?_
     refine lm rfl rfl rfl rfl rfl ?_
     rcases Bool.eq_false_or_eq_true (decide (1#64 < (ath (wds b 4) 0))) with hc_50 | hc_50
     ·
      refine T_slot 30 (.bool (decide (1#64 < (ath (wds b 4) 0)))) (.bool true) rfl (congrArg _ hc_50) ?_
      refine T_slot 29 (.bool (decide (1#64 < (ath (wds b 4) 0)))) (.bool true) rfl (congrArg _ hc_50) ?_
      have hc_50 := of_decide_eq_true hc_50
      refine L_skip rfl rfl rfl ?_
      refine L_skip rfl rfl rfl ?_
      refine L_skip rfl rfl rfl ?_
      refine L_skip rfl rfl rfl ?_
      refine L_skip rfl rfl rfl ?_
      refine L_skip rfl rfl rfl ?_
      refine L_skip rfl rfl rfl ?_
      refine L_skip rfl rfl rfl ?_
      refine L_skip rfl rfl rfl ?_
      refine L_skip rfl rfl rfl ?_
      refine L_skip rfl rfl rfl ?_
      refine L_skip rfl rfl rfl ?_
      refine L_skip rfl rfl rfl ?_
      refine L_skip rfl rfl rfl ?_
      refine lo rfl (pr_pick_t rfl rfl rfl) rfl rfl ?_
      refine L_nil ?_
      refine T_cond_t rfl ?_
      refine Tsr hF rfl ?_
      refine lo rfl (pr_build (qs := []) (v := .agg [(.bool false), (.int .i64 ((0 : Nat) : Int)), (.int .i64 ((0 : Nat) : Int)), (.int .i64 ((0 : Nat) : Int))].toArray) (fun _ => by kernel_rfl) rfl rfl) rfl rfl ?_
      refine L_op rfl (op_sto (n := 4) (vs := [(.bool false), (.int .i64 ((0 : Nat) : Int)), (.int .i64 ((0 : Nat) : Int)), (.int .i64 ((0 : Nat) : Int))]) 0 rfl rfl kr (by simp [Value.oneCell']) kr kr rfl rfl rfl rfl ?_)
      refine la rfl rfl rfl rfl rfl ?_
      refine L_nil ?_
      refine T_ret ?_
      refine T_as 0 _ (.blk g1 43 [(.bool ((rtk b).d)), (.int .i64 (i64 (rtk b).k)), (.int .i64 (i64 (rtk b).v)), (.int .i64 (i64 (rtk b).s))]) rfl (by first | rfl | (rw [rtk_no (by rw [rte_short (by omega)]; decide)]; rfl) | rw [rte_short (by omega)] | (rw [rtk_no (by rw [rte_long (by omega)]; decide)]; rfl) | rw [rte_long (by omega)] | (rw [rtk_no (by rw [rte_bad (by omega) (rb1 (by assumption))]; decide)]; rfl) | rw [rte_bad (by omega) (rb1 (by assumption))] | (rw [rtk_no (by rw [rte_bad (by omega) (rb2 (by assumption) (by assumption))]; decide)]; rfl) | rw [rte_bad (by omega) (rb2 (by assumption) (by assumption))] | (rw [rtk_no (by rw [rte_bad (by omega) (rb3 (by assumption) (by assumption))]; decide)]; rfl) | rw [rte_bad (by omega) (rb3 (by assumption) (by assumption))] | (rw [rtk_no (by rw [rte_bad (by omega) (rb4 (by assumption) (by assumption))]; decide)]; rfl) | rw [rte_bad (by omega) (rb4 (by assumption) (by assumption))] | (rw [rtk_no (by rw [rte_bad (by omega) (rb5 (by assumption) (by assumption))]; decide)]; rfl) | rw [rte_bad (by omega) (rb5 (by assumption) (by assumption))] | (rw [rtk_ok (rte_ok (by omega) (nb1 (by assumption) (by assumption) (by assumption)))]; rfl) | rw [rte_ok (by omega) (nb1 (by assumption) (by assumption) (by assumption))] | (rw [rtk_ok (rte_ok (by omega) (nb2 (by assumption) (by assumption)))]; rfl) | rw [rte_ok (by omega) (nb2 (by assumption) (by assumption))] | (rw [rtk_ok (rte_ok (by omega) (nb3 (by assumption) (by assumption) (by assumption) (by assumption)))]; rfl) | rw [rte_ok (by omega) (nb3 (by assumption) (by assumption) (by assumption) (by assumption))]) ?_
      refine T_slot 3 (.int .i64 ((4 : Nat) : Int)) (.int .i64 (((rte b) : Nat) : Int)) rfl (by first | rfl | (rw [rtk_no (by rw [rte_short (by omega)]; decide)]; rfl) | rw [rte_short (by omega)] | (rw [rtk_no (by rw [rte_long (by omega)]; decide)]; rfl) | rw [rte_long (by omega)] | (rw [rtk_no (by rw [rte_bad (by omega) (rb1 (by assumption))]; decide)]; rfl) | rw [rte_bad (by omega) (rb1 (by assumption))] | (rw [rtk_no (by rw [rte_bad (by omega) (rb2 (by assumption) (by assumption))]; decide)]; rfl) | rw [rte_bad (by omega) (rb2 (by assumption) (by assumption))] | (rw [rtk_no (by rw [rte_bad (by omega) (rb3 (by assumption) (by assumption))]; decide)]; rfl) | rw [rte_bad (by omega) (rb3 (by assumption) (by assumption))] | (rw [rtk_no (by rw [rte_bad (by omega) (rb4 (by assumption) (by assumption))]; decide)]; rfl) | rw [rte_bad (by omega) (rb4 (by assumption) (by assumption))] | (rw [rtk_no (by rw [rte_bad (by omega) (rb5 (by assumption) (by assumption))]; decide)]; rfl) | rw [rte_bad (by omega) (rb5 (by assumption) (by assumption))] | (rw [rtk_ok (rte_ok (by omega) (nb1 (by assumption) (by assumption) (by assumption)))]; rfl) | rw [rte_ok (by omega) (nb1 (by assumption) (by assumption) (by assumption))] | (rw [rtk_ok (rte_ok (by omega) (nb2 (by assumption) (by assumption)))]; rfl) | rw [rte_ok (by omega) (nb2 (by assumption) (by assumption))] | (rw [rtk_ok (rte_ok (by omega) (nb3 (by assumption) (by assumption) (by assumption) (by assumption)))]; rfl) | rw [rte_ok (by omega) (nb3 (by assumption) (by assumption) (by assumption) (by assumption))]) ?_
      exact T_fin () (by first | trivial | omega | (simp; done)) (resct 0 rfl rfl rfl Try.underlying43 rfl kr rfl) [] ⟨by decide, rfl⟩ rfl
     ·
      refine T_slot 30 (.bool (decide (1#64 < (ath (wds b 4) 0)))) (.bool false) rfl (congrArg _ hc_50) ?_
      refine T_slot 29 (.bool (decide (1#64 < (ath (wds b 4) 0)))) (.bool false) rfl (congrArg _ hc_50) ?_
      have hc_50 := of_decide_eq_false hc_50
      refine lm rfl rfl rfl rfl rfl ?_
      refine lo rfl (pr_cmp (bo := .eql) (n64_beq (ath (wds b 4) 0) (1#64)) rfl rfl rfl rfl) rfl rfl ?_
      refine lm rfl rfl rfl rfl rfl ?_
      rcases Bool.eq_false_or_eq_true ((ath (wds b 4) 0) == 1#64) with hc_51 | hc_51
      ·
       refine T_slot 33 (.bool ((ath (wds b 4) 0) == 1#64)) (.bool true) rfl (congrArg _ hc_51) ?_
       refine T_slot 32 (.bool ((ath (wds b 4) 0) == 1#64)) (.bool true) rfl (congrArg _ hc_51) ?_
       have hc_51 : (ath (wds b 4) 0) = 1#64 := by simpa using hc_51
       refine lm rfl rfl rfl rfl rfl ?_
       refine lo rfl (pr_cmp (bo := .neq) (n64_bne (ath (wds b 4) 1) (0#64)) rfl rfl rfl rfl) rfl rfl ?_
       refine lm rfl rfl rfl rfl rfl ?_
       rcases Bool.eq_false_or_eq_true ((ath (wds b 4) 1) != 0#64) with hc_52 | hc_52
       ·
        refine T_slot 36 (.bool ((ath (wds b 4) 1) != 0#64)) (.bool true) rfl (congrArg _ hc_52) ?_
        refine T_slot 35 (.bool ((ath (wds b 4) 1) != 0#64)) (.bool true) rfl (congrArg _ hc_52) ?_
        have hc_52 : ¬ (ath (wds b 4) 1) = 0#64 := by simpa using hc_52
        refine L_skip rfl rfl rfl ?_
        refine L_skip rfl rfl rfl ?_
        refine lo rfl (pr_pick_t rfl rfl rfl) rfl rfl ?_
        refine lm rfl rfl rfl rfl rfl ?_
        refine L_skip rfl rfl rfl ?_
        refine L_skip rfl rfl rfl ?_
        refine lo rfl (pr_pick_t rfl rfl rfl) rfl rfl ?_
        refine lo rfl (pr_pick_t rfl rfl rfl) rfl rfl ?_
        refine lo rfl (pr_pick_f rfl rfl rfl) rfl rfl ?_
        refine L_nil ?_
        refine T_cond_t rfl ?_
        refine Tsr hF rfl ?_
        refine lo rfl (pr_build (qs := []) (v := .agg [(.bool false), (.int .i64 ((0 : Nat) : Int)), (.int .i64 ((0 : Nat) : Int)), (.int .i64 ((0 : Nat) : Int))].toArray) (fun _ => by kernel_rfl) rfl rfl) rfl rfl ?_
        refine L_op rfl (op_sto (n := 4) (vs := [(.bool false), (.int .i64 ((0 : Nat) : Int)), (.int .i64 ((0 : Nat) : Int)), (.int .i64 ((0 : Nat) : Int))]) 0 rfl rfl kr (by simp [Value.oneCell']) kr kr rfl rfl rfl rfl ?_)
        refine la rfl rfl rfl rfl rfl ?_
        refine L_nil ?_
        refine T_ret ?_
        refine T_as 0 _ (.blk g1 43 [(.bool ((rtk b).d)), (.int .i64 (i64 (rtk b).k)), (.int .i64 (i64 (rtk b).v)), (.int .i64 (i64 (rtk b).s))]) rfl (by first | rfl | (rw [rtk_no (by rw [rte_short (by omega)]; decide)]; rfl) | rw [rte_short (by omega)] | (rw [rtk_no (by rw [rte_long (by omega)]; decide)]; rfl) | rw [rte_long (by omega)] | (rw [rtk_no (by rw [rte_bad (by omega) (rb1 (by assumption))]; decide)]; rfl) | rw [rte_bad (by omega) (rb1 (by assumption))] | (rw [rtk_no (by rw [rte_bad (by omega) (rb2 (by assumption) (by assumption))]; decide)]; rfl) | rw [rte_bad (by omega) (rb2 (by assumption) (by assumption))] | (rw [rtk_no (by rw [rte_bad (by omega) (rb3 (by assumption) (by assumption))]; decide)]; rfl) | rw [rte_bad (by omega) (rb3 (by assumption) (by assumption))] | (rw [rtk_no (by rw [rte_bad (by omega) (rb4 (by assumption) (by assumption))]; decide)]; rfl) | rw [rte_bad (by omega) (rb4 (by assumption) (by assumption))] | (rw [rtk_no (by rw [rte_bad (by omega) (rb5 (by assumption) (by assumption))]; decide)]; rfl) | rw [rte_bad (by omega) (rb5 (by assumption) (by assumption))] | (rw [rtk_ok (rte_ok (by omega) (nb1 (by assumption) (by assumption) (by assumption)))]; rfl) | rw [rte_ok (by omega) (nb1 (by assumption) (by assumption) (by assumption))] | (rw [rtk_ok (rte_ok (by omega) (nb2 (by assumption) (by assumption)))]; rfl) | rw [rte_ok (by omega) (nb2 (by assumption) (by assumption))] | (rw [rtk_ok (rte_ok (by omega) (nb3 (by assumption) (by assumption) (by assumption) (by assumption)))]; rfl) | rw [rte_ok (by omega) (nb3 (by assumption) (by assumption) (by assumption) (by assumption))]) ?_
        refine T_slot 3 (.int .i64 ((4 : Nat) : Int)) (.int .i64 (((rte b) : Nat) : Int)) rfl (by first | rfl | (rw [rtk_no (by rw [rte_short (by omega)]; decide)]; rfl) | rw [rte_short (by omega)] | (rw [rtk_no (by rw [rte_long (by omega)]; decide)]; rfl) | rw [rte_long (by omega)] | (rw [rtk_no (by rw [rte_bad (by omega) (rb1 (by assumption))]; decide)]; rfl) | rw [rte_bad (by omega) (rb1 (by assumption))] | (rw [rtk_no (by rw [rte_bad (by omega) (rb2 (by assumption) (by assumption))]; decide)]; rfl) | rw [rte_bad (by omega) (rb2 (by assumption) (by assumption))] | (rw [rtk_no (by rw [rte_bad (by omega) (rb3 (by assumption) (by assumption))]; decide)]; rfl) | rw [rte_bad (by omega) (rb3 (by assumption) (by assumption))] | (rw [rtk_no (by rw [rte_bad (by omega) (rb4 (by assumption) (by assumption))]; decide)]; rfl) | rw [rte_bad (by omega) (rb4 (by assumption) (by assumption))] | (rw [rtk_no (by rw [rte_bad (by omega) (rb5 (by assumption) (by assumption))]; decide)]; rfl) | rw [rte_bad (by omega) (rb5 (by assumption) (by assumption))] | (rw [rtk_ok (rte_ok (by omega) (nb1 (by assumption) (by assumption) (by assumption)))]; rfl) | rw [rte_ok (by omega) (nb1 (by assumption) (by assumption) (by assumption))] | (rw [rtk_ok (rte_ok (by omega) (nb2 (by assumption) (by assumption)))]; rfl) | rw [rte_ok (by omega) (nb2 (by assumption) (by assumption))] | (rw [rtk_ok (rte_ok (by omega) (nb3 (by assumption) (by assumption) (by assumption) (by assumption)))]; rfl) | rw [rte_ok (by omega) (nb3 (by assumption) (by assumption) (by assumption) (by assumption))]) ?_
        exact T_fin () (by first | trivial | omega | (simp; done)) (resct 0 rfl rfl rfl Try.underlying43 rfl kr rfl) [] ⟨by decide, rfl⟩ rfl
       ·
        refine T_slot 36 (.bool ((ath (wds b 4) 1) != 0#64)) (.bool false) rfl (congrArg _ hc_52) ?_
        refine T_slot 35 (.bool ((ath (wds b 4) 1) != 0#64)) (.bool false) rfl (congrArg _ hc_52) ?_
        have hc_52 : (ath (wds b 4) 1) = 0#64 := by simpa using hc_52
        refine lm rfl rfl rfl rfl rfl ?_
        refine lo rfl (pr_cmp (bo := .neq) (n64_bne (ath (wds b 4) 2) (0#64)) rfl rfl rfl rfl) rfl rfl ?_
        refine lo rfl (pr_pick_f rfl rfl rfl) rfl rfl ?_
        refine lm rfl rfl rfl rfl rfl ?_
        rcases Bool.eq_false_or_eq_true ((ath (wds b 4) 2) != 0#64) with hc_53 | hc_53
        ·
         refine T_slot 40 (.bool ((ath (wds b 4) 2) != 0#64)) (.bool true) rfl (congrArg _ hc_53) ?_
         refine T_slot 38 (.bool ((ath (wds b 4) 2) != 0#64)) (.bool true) rfl (congrArg _ hc_53) ?_
         refine T_slot 39 (.bool ((ath (wds b 4) 2) != 0#64)) (.bool true) rfl (congrArg _ hc_53) ?_
         have hc_53 : ¬ (ath (wds b 4) 2) = 0#64 := by simpa using hc_53
         refine L_skip rfl rfl rfl ?_
         refine L_skip rfl rfl rfl ?_
         refine lo rfl (pr_pick_t rfl rfl rfl) rfl rfl ?_
         refine lo rfl (pr_pick_t rfl rfl rfl) rfl rfl ?_
         refine lo rfl (pr_pick_f rfl rfl rfl) rfl rfl ?_
         refine L_nil ?_
         refine T_cond_t rfl ?_
         refine Tsr hF rfl ?_
         refine lo rfl (pr_build (qs := []) (v := .agg [(.bool false), (.int .i64 ((0 : Nat) : Int)), (.int .i64 ((0 : Nat) : Int)), (.int .i64 ((0 : Nat) : Int))].toArray) (fun _ => by kernel_rfl) rfl rfl) rfl rfl ?_
         refine L_op rfl (op_sto (n := 4) (vs := [(.bool false), (.int .i64 ((0 : Nat) : Int)), (.int .i64 ((0 : Nat) : Int)), (.int .i64 ((0 : Nat) : Int))]) 0 rfl rfl kr (by simp [Value.oneCell']) kr kr rfl rfl rfl rfl ?_)
         refine la rfl rfl rfl rfl rfl ?_
         refine L_nil ?_
         refine T_ret ?_
         refine T_as 0 _ (.blk g1 43 [(.bool ((rtk b).d)), (.int .i64 (i64 (rtk b).k)), (.int .i64 (i64 (rtk b).v)), (.int .i64 (i64 (rtk b).s))]) rfl (by first | rfl | (rw [rtk_no (by rw [rte_short (by omega)]; decide)]; rfl) | rw [rte_short (by omega)] | (rw [rtk_no (by rw [rte_long (by omega)]; decide)]; rfl) | rw [rte_long (by omega)] | (rw [rtk_no (by rw [rte_bad (by omega) (rb1 (by assumption))]; decide)]; rfl) | rw [rte_bad (by omega) (rb1 (by assumption))] | (rw [rtk_no (by rw [rte_bad (by omega) (rb2 (by assumption) (by assumption))]; decide)]; rfl) | rw [rte_bad (by omega) (rb2 (by assumption) (by assumption))] | (rw [rtk_no (by rw [rte_bad (by omega) (rb3 (by assumption) (by assumption))]; decide)]; rfl) | rw [rte_bad (by omega) (rb3 (by assumption) (by assumption))] | (rw [rtk_no (by rw [rte_bad (by omega) (rb4 (by assumption) (by assumption))]; decide)]; rfl) | rw [rte_bad (by omega) (rb4 (by assumption) (by assumption))] | (rw [rtk_no (by rw [rte_bad (by omega) (rb5 (by assumption) (by assumption))]; decide)]; rfl) | rw [rte_bad (by omega) (rb5 (by assumption) (by assumption))] | (rw [rtk_ok (rte_ok (by omega) (nb1 (by assumption) (by assumption) (by assumption)))]; rfl) | rw [rte_ok (by omega) (nb1 (by assumption) (by assumption) (by assumption))] | (rw [rtk_ok (rte_ok (by omega) (nb2 (by assumption) (by assumption)))]; rfl) | rw [rte_ok (by omega) (nb2 (by assumption) (by assumption))] | (rw [rtk_ok (rte_ok (by omega) (nb3 (by assumption) (by assumption) (by assumption) (by assumption)))]; rfl) | rw [rte_ok (by omega) (nb3 (by assumption) (by assumption) (by assumption) (by assumption))]) ?_
         refine T_slot 3 (.int .i64 ((4 : Nat) : Int)) (.int .i64 (((rte b) : Nat) : Int)) rfl (by first | rfl | (rw [rtk_no (by rw [rte_short (by omega)]; decide)]; rfl) | rw [rte_short (by omega)] | (rw [rtk_no (by rw [rte_long (by omega)]; decide)]; rfl) | rw [rte_long (by omega)] | (rw [rtk_no (by rw [rte_bad (by omega) (rb1 (by assumption))]; decide)]; rfl) | rw [rte_bad (by omega) (rb1 (by assumption))] | (rw [rtk_no (by rw [rte_bad (by omega) (rb2 (by assumption) (by assumption))]; decide)]; rfl) | rw [rte_bad (by omega) (rb2 (by assumption) (by assumption))] | (rw [rtk_no (by rw [rte_bad (by omega) (rb3 (by assumption) (by assumption))]; decide)]; rfl) | rw [rte_bad (by omega) (rb3 (by assumption) (by assumption))] | (rw [rtk_no (by rw [rte_bad (by omega) (rb4 (by assumption) (by assumption))]; decide)]; rfl) | rw [rte_bad (by omega) (rb4 (by assumption) (by assumption))] | (rw [rtk_no (by rw [rte_bad (by omega) (rb5 (by assumption) (by assumption))]; decide)]; rfl) | rw [rte_bad (by omega) (rb5 (by assumption) (by assumption))] | (rw [rtk_ok (rte_ok (by omega) (nb1 (by assumption) (by assumption) (by assumption)))]; rfl) | rw [rte_ok (by omega) (nb1 (by assumption) (by assumption) (by assumption))] | (rw [rtk_ok (rte_ok (by omega) (nb2 (by assumption) (by assumption)))]; rfl) | rw [rte_ok (by omega) (nb2 (by assumption) (by assumption))] | (rw [rtk_ok (rte_ok (by omega) (nb3 (by assumption) (by assumption) (by assumption) (by assumption)))]; rfl) | rw [rte_ok (by omega) (nb3 (by assumption) (by assumption) (by assumption) (by assumption))]) ?_
         exact T_fin () (by first | trivial | omega | (simp; done)) (resct 0 rfl rfl rfl Try.underlying43 rfl kr rfl) [] ⟨by decide, rfl⟩ rfl
        ·
         refine T_slot 40 (.bool ((ath (wds b 4) 2) != 0#64)) (.bool false) rfl (congrArg _ hc_53) ?_
         refine T_slot 38 (.bool ((ath (wds b 4) 2) != 0#64)) (.bool false) rfl (congrArg _ hc_53) ?_
         refine T_slot 39 (.bool ((ath (wds b 4) 2) != 0#64)) (.bool false) rfl (congrArg _ hc_53) ?_
         have hc_53 : (ath (wds b 4) 2) = 0#64 := by simpa using hc_53
         refine lm rfl rfl rfl rfl rfl ?_
         refine lo rfl (pr_cmp (bo := .neq) (n64_bne (ath (wds b 4) 3) (0#64)) rfl rfl rfl rfl) rfl rfl ?_
         refine lo rfl (pr_pick_f rfl rfl rfl) rfl rfl ?_
         refine lo rfl (pr_pick_t rfl rfl rfl) rfl rfl ?_
         refine lo rfl (pr_pick_f rfl rfl rfl) rfl rfl ?_
         refine L_nil ?_
         refine T_cond ((ath (wds b 4) 3) != 0#64) rfl (fun hc_54 => ?_) (fun hc_54 => ?_)
         ·
          have hc_54 : ¬ (ath (wds b 4) 3) = 0#64 := by simpa using hc_54
          refine Tsr hF rfl ?_
          refine lo rfl (pr_build (qs := []) (v := .agg [(.bool false), (.int .i64 ((0 : Nat) : Int)), (.int .i64 ((0 : Nat) : Int)), (.int .i64 ((0 : Nat) : Int))].toArray) (fun _ => by kernel_rfl) rfl rfl) rfl rfl ?_
          refine L_op rfl (op_sto (n := 4) (vs := [(.bool false), (.int .i64 ((0 : Nat) : Int)), (.int .i64 ((0 : Nat) : Int)), (.int .i64 ((0 : Nat) : Int))]) 0 rfl rfl kr (by simp [Value.oneCell']) kr kr rfl rfl rfl rfl ?_)
          refine la rfl rfl rfl rfl rfl ?_
          refine L_nil ?_
          refine T_ret ?_
          refine T_as 0 _ (.blk g1 43 [(.bool ((rtk b).d)), (.int .i64 (i64 (rtk b).k)), (.int .i64 (i64 (rtk b).v)), (.int .i64 (i64 (rtk b).s))]) rfl (by first | rfl | (rw [rtk_no (by rw [rte_short (by omega)]; decide)]; rfl) | rw [rte_short (by omega)] | (rw [rtk_no (by rw [rte_long (by omega)]; decide)]; rfl) | rw [rte_long (by omega)] | (rw [rtk_no (by rw [rte_bad (by omega) (rb1 (by assumption))]; decide)]; rfl) | rw [rte_bad (by omega) (rb1 (by assumption))] | (rw [rtk_no (by rw [rte_bad (by omega) (rb2 (by assumption) (by assumption))]; decide)]; rfl) | rw [rte_bad (by omega) (rb2 (by assumption) (by assumption))] | (rw [rtk_no (by rw [rte_bad (by omega) (rb3 (by assumption) (by assumption))]; decide)]; rfl) | rw [rte_bad (by omega) (rb3 (by assumption) (by assumption))] | (rw [rtk_no (by rw [rte_bad (by omega) (rb4 (by assumption) (by assumption))]; decide)]; rfl) | rw [rte_bad (by omega) (rb4 (by assumption) (by assumption))] | (rw [rtk_no (by rw [rte_bad (by omega) (rb5 (by assumption) (by assumption))]; decide)]; rfl) | rw [rte_bad (by omega) (rb5 (by assumption) (by assumption))] | (rw [rtk_ok (rte_ok (by omega) (nb1 (by assumption) (by assumption) (by assumption)))]; rfl) | rw [rte_ok (by omega) (nb1 (by assumption) (by assumption) (by assumption))] | (rw [rtk_ok (rte_ok (by omega) (nb2 (by assumption) (by assumption)))]; rfl) | rw [rte_ok (by omega) (nb2 (by assumption) (by assumption))] | (rw [rtk_ok (rte_ok (by omega) (nb3 (by assumption) (by assumption) (by assumption) (by assumption)))]; rfl) | rw [rte_ok (by omega) (nb3 (by assumption) (by assumption) (by assumption) (by assumption))]) ?_
          refine T_slot 3 (.int .i64 ((4 : Nat) : Int)) (.int .i64 (((rte b) : Nat) : Int)) rfl (by first | rfl | (rw [rtk_no (by rw [rte_short (by omega)]; decide)]; rfl) | rw [rte_short (by omega)] | (rw [rtk_no (by rw [rte_long (by omega)]; decide)]; rfl) | rw [rte_long (by omega)] | (rw [rtk_no (by rw [rte_bad (by omega) (rb1 (by assumption))]; decide)]; rfl) | rw [rte_bad (by omega) (rb1 (by assumption))] | (rw [rtk_no (by rw [rte_bad (by omega) (rb2 (by assumption) (by assumption))]; decide)]; rfl) | rw [rte_bad (by omega) (rb2 (by assumption) (by assumption))] | (rw [rtk_no (by rw [rte_bad (by omega) (rb3 (by assumption) (by assumption))]; decide)]; rfl) | rw [rte_bad (by omega) (rb3 (by assumption) (by assumption))] | (rw [rtk_no (by rw [rte_bad (by omega) (rb4 (by assumption) (by assumption))]; decide)]; rfl) | rw [rte_bad (by omega) (rb4 (by assumption) (by assumption))] | (rw [rtk_no (by rw [rte_bad (by omega) (rb5 (by assumption) (by assumption))]; decide)]; rfl) | rw [rte_bad (by omega) (rb5 (by assumption) (by assumption))] | (rw [rtk_ok (rte_ok (by omega) (nb1 (by assumption) (by assumption) (by assumption)))]; rfl) | rw [rte_ok (by omega) (nb1 (by assumption) (by assumption) (by assumption))] | (rw [rtk_ok (rte_ok (by omega) (nb2 (by assumption) (by assumption)))]; rfl) | rw [rte_ok (by omega) (nb2 (by assumption) (by assumption))] | (rw [rtk_ok (rte_ok (by omega) (nb3 (by assumption) (by assumption) (by assumption) (by assumption)))]; rfl) | rw [rte_ok (by omega) (nb3 (by assumption) (by assumption) (by assumption) (by assumption))]) ?_
          exact T_fin () (by first | trivial | omega | (simp; done)) (resct 0 rfl rfl rfl Try.underlying43 rfl kr rfl) [] ⟨by decide, rfl⟩ rfl
         ·
          have hc_54 : (ath (wds b 4) 3) = 0#64 := by simpa using hc_54
          refine T_skip ?_
          refine Tsr hF rfl ?_
          refine lm rfl rfl rfl rfl rfl ?_
          refine lo rfl (pr_cmp (bo := .eql) (n64_beq (ath (wds b 4) 0) (1#64)) rfl rfl rfl rfl) rfl rfl ?_
          refine lm rfl rfl rfl rfl rfl ?_
          refine lo rfl (pr_cv (zc_u64i (ath (wds b 4) 1)) Try.underlying30 Try.underlying2 rfl rfl) rfl rfl ?_
          refine lm rfl rfl rfl rfl rfl ?_
          refine lo rfl (pr_cv (zc_u64i (ath (wds b 4) 2)) Try.underlying30 Try.underlying2 rfl rfl) rfl rfl ?_
          refine lm rfl rfl rfl rfl rfl ?_
          refine lo rfl (pr_cv (zc_u64i (ath (wds b 4) 3)) Try.underlying30 Try.underlying2 rfl rfl) rfl rfl ?_
          refine lo rfl (pr_build (qs := [(0, (.bool ((ath (wds b 4) 0) == 1#64))), (1, (.int .i64 (i64 (ath (wds b 4) 1)))), (2, (.int .i64 (i64 (ath (wds b 4) 2)))), (3, (.int .i64 (i64 (ath (wds b 4) 3))))]) (v := .agg [(.bool ((ath (wds b 4) 0) == 1#64)), (.int .i64 (i64 (ath (wds b 4) 1))), (.int .i64 (i64 (ath (wds b 4) 2))), (.int .i64 (i64 (ath (wds b 4) 3)))].toArray) (fun _ => by kernel_rfl) rfl rfl) rfl rfl ?_
          refine L_op rfl (op_sto (n := 4) (vs := [(.bool ((ath (wds b 4) 0) == 1#64)), (.int .i64 (i64 (ath (wds b 4) 1))), (.int .i64 (i64 (ath (wds b 4) 2))), (.int .i64 (i64 (ath (wds b 4) 3)))]) 0 rfl rfl kr (by simp [Value.oneCell']) kr kr rfl rfl rfl rfl ?_)
          refine la rfl rfl rfl rfl rfl ?_
          refine L_nil ?_
          refine T_ret ?_
          refine T_as 0 _ (.blk g1 43 [(.bool ((rtk b).d)), (.int .i64 (i64 (rtk b).k)), (.int .i64 (i64 (rtk b).v)), (.int .i64 (i64 (rtk b).s))]) rfl (by first | rfl | (rw [rtk_no (by rw [rte_short (by omega)]; decide)]; rfl) | rw [rte_short (by omega)] | (rw [rtk_no (by rw [rte_long (by omega)]; decide)]; rfl) | rw [rte_long (by omega)] | (rw [rtk_no (by rw [rte_bad (by omega) (rb1 (by assumption))]; decide)]; rfl) | rw [rte_bad (by omega) (rb1 (by assumption))] | (rw [rtk_no (by rw [rte_bad (by omega) (rb2 (by assumption) (by assumption))]; decide)]; rfl) | rw [rte_bad (by omega) (rb2 (by assumption) (by assumption))] | (rw [rtk_no (by rw [rte_bad (by omega) (rb3 (by assumption) (by assumption))]; decide)]; rfl) | rw [rte_bad (by omega) (rb3 (by assumption) (by assumption))] | (rw [rtk_no (by rw [rte_bad (by omega) (rb4 (by assumption) (by assumption))]; decide)]; rfl) | rw [rte_bad (by omega) (rb4 (by assumption) (by assumption))] | (rw [rtk_no (by rw [rte_bad (by omega) (rb5 (by assumption) (by assumption))]; decide)]; rfl) | rw [rte_bad (by omega) (rb5 (by assumption) (by assumption))] | (rw [rtk_ok (rte_ok (by omega) (nb1 (by assumption) (by assumption) (by assumption)))]; rfl) | rw [rte_ok (by omega) (nb1 (by assumption) (by assumption) (by assumption))] | (rw [rtk_ok (rte_ok (by omega) (nb2 (by assumption) (by assumption)))]; rfl) | rw [rte_ok (by omega) (nb2 (by assumption) (by assumption))] | (rw [rtk_ok (rte_ok (by omega) (nb3 (by assumption) (by assumption) (by assumption) (by assumption)))]; rfl) | rw [rte_ok (by omega) (nb3 (by assumption) (by assumption) (by assumption) (by assumption))]) ?_
          refine T_slot 3 (.int .i64 ((0 : Nat) : Int)) (.int .i64 (((rte b) : Nat) : Int)) rfl (by first | rfl | (rw [rtk_no (by rw [rte_short (by omega)]; decide)]; rfl) | rw [rte_short (by omega)] | (rw [rtk_no (by rw [rte_long (by omega)]; decide)]; rfl) | rw [rte_long (by omega)] | (rw [rtk_no (by rw [rte_bad (by omega) (rb1 (by assumption))]; decide)]; rfl) | rw [rte_bad (by omega) (rb1 (by assumption))] | (rw [rtk_no (by rw [rte_bad (by omega) (rb2 (by assumption) (by assumption))]; decide)]; rfl) | rw [rte_bad (by omega) (rb2 (by assumption) (by assumption))] | (rw [rtk_no (by rw [rte_bad (by omega) (rb3 (by assumption) (by assumption))]; decide)]; rfl) | rw [rte_bad (by omega) (rb3 (by assumption) (by assumption))] | (rw [rtk_no (by rw [rte_bad (by omega) (rb4 (by assumption) (by assumption))]; decide)]; rfl) | rw [rte_bad (by omega) (rb4 (by assumption) (by assumption))] | (rw [rtk_no (by rw [rte_bad (by omega) (rb5 (by assumption) (by assumption))]; decide)]; rfl) | rw [rte_bad (by omega) (rb5 (by assumption) (by assumption))] | (rw [rtk_ok (rte_ok (by omega) (nb1 (by assumption) (by assumption) (by assumption)))]; rfl) | rw [rte_ok (by omega) (nb1 (by assumption) (by assumption) (by assumption))] | (rw [rtk_ok (rte_ok (by omega) (nb2 (by assumption) (by assumption)))]; rfl) | rw [rte_ok (by omega) (nb2 (by assumption) (by assumption))] | (rw [rtk_ok (rte_ok (by omega) (nb3 (by assumption) (by assumption) (by assumption) (by assumption)))]; rfl) | rw [rte_ok (by omega) (nb3 (by assumption) (by assumption) (by assumption) (by assumption))]) ?_
          exact T_fin () (by first | trivial | omega | (simp; done)) (resct 0 rfl rfl rfl Try.underlying43 rfl kr rfl) [] ⟨by decide, rfl⟩ rfl
      ·
       refine T_slot 33 (.bool ((ath (wds b 4) 0) == 1#64)) (.bool false) rfl (congrArg _ hc_51) ?_
       refine T_slot 32 (.bool ((ath (wds b 4) 0) == 1#64)) (.bool false) rfl (congrArg _ hc_51) ?_
       have hc_51 : ¬ (ath (wds b 4) 0) = 1#64 := by simpa using hc_51
       refine L_skip rfl rfl rfl ?_
       refine L_skip rfl rfl rfl ?_
       refine L_skip rfl rfl rfl ?_
       refine L_skip rfl rfl rfl ?_
       refine L_skip rfl rfl rfl ?_
       refine L_skip rfl rfl rfl ?_
       refine L_skip rfl rfl rfl ?_
       refine L_skip rfl rfl rfl ?_
       refine L_skip rfl rfl rfl ?_
       refine L_skip rfl rfl rfl ?_
       refine lo rfl (pr_pick_f rfl rfl rfl) rfl rfl ?_
       refine lo rfl (pr_pick_f rfl rfl rfl) rfl rfl ?_
       refine L_nil ?_
       refine T_cond_f rfl ?_
       refine T_skip ?_
       refine Tsr hF rfl ?_
       refine lm rfl rfl rfl rfl rfl ?_
       refine lo rfl (pr_cmp (bo := .eql) (n64_beq (ath (wds b 4) 0) (1#64)) rfl rfl rfl rfl) rfl rfl ?_
       refine lm rfl rfl rfl rfl rfl ?_
       refine lo rfl (pr_cv (zc_u64i (ath (wds b 4) 1)) Try.underlying30 Try.underlying2 rfl rfl) rfl rfl ?_
       refine lm rfl rfl rfl rfl rfl ?_
       refine lo rfl (pr_cv (zc_u64i (ath (wds b 4) 2)) Try.underlying30 Try.underlying2 rfl rfl) rfl rfl ?_
       refine lm rfl rfl rfl rfl rfl ?_
       refine lo rfl (pr_cv (zc_u64i (ath (wds b 4) 3)) Try.underlying30 Try.underlying2 rfl rfl) rfl rfl ?_
       refine lo rfl (pr_build (qs := [(0, (.bool ((ath (wds b 4) 0) == 1#64))), (1, (.int .i64 (i64 (ath (wds b 4) 1)))), (2, (.int .i64 (i64 (ath (wds b 4) 2)))), (3, (.int .i64 (i64 (ath (wds b 4) 3))))]) (v := .agg [(.bool ((ath (wds b 4) 0) == 1#64)), (.int .i64 (i64 (ath (wds b 4) 1))), (.int .i64 (i64 (ath (wds b 4) 2))), (.int .i64 (i64 (ath (wds b 4) 3)))].toArray) (fun _ => by kernel_rfl) rfl rfl) rfl rfl ?_
       refine L_op rfl (op_sto (n := 4) (vs := [(.bool ((ath (wds b 4) 0) == 1#64)), (.int .i64 (i64 (ath (wds b 4) 1))), (.int .i64 (i64 (ath (wds b 4) 2))), (.int .i64 (i64 (ath (wds b 4) 3)))]) 0 rfl rfl kr (by simp [Value.oneCell']) kr kr rfl rfl rfl rfl ?_)
       refine la rfl rfl rfl rfl rfl ?_
       refine L_nil ?_
       refine T_ret ?_
       refine T_as 0 _ (.blk g1 43 [(.bool ((rtk b).d)), (.int .i64 (i64 (rtk b).k)), (.int .i64 (i64 (rtk b).v)), (.int .i64 (i64 (rtk b).s))]) rfl (by first | rfl | (rw [rtk_no (by rw [rte_short (by omega)]; decide)]; rfl) | rw [rte_short (by omega)] | (rw [rtk_no (by rw [rte_long (by omega)]; decide)]; rfl) | rw [rte_long (by omega)] | (rw [rtk_no (by rw [rte_bad (by omega) (rb1 (by assumption))]; decide)]; rfl) | rw [rte_bad (by omega) (rb1 (by assumption))] | (rw [rtk_no (by rw [rte_bad (by omega) (rb2 (by assumption) (by assumption))]; decide)]; rfl) | rw [rte_bad (by omega) (rb2 (by assumption) (by assumption))] | (rw [rtk_no (by rw [rte_bad (by omega) (rb3 (by assumption) (by assumption))]; decide)]; rfl) | rw [rte_bad (by omega) (rb3 (by assumption) (by assumption))] | (rw [rtk_no (by rw [rte_bad (by omega) (rb4 (by assumption) (by assumption))]; decide)]; rfl) | rw [rte_bad (by omega) (rb4 (by assumption) (by assumption))] | (rw [rtk_no (by rw [rte_bad (by omega) (rb5 (by assumption) (by assumption))]; decide)]; rfl) | rw [rte_bad (by omega) (rb5 (by assumption) (by assumption))] | (rw [rtk_ok (rte_ok (by omega) (nb1 (by assumption) (by assumption) (by assumption)))]; rfl) | rw [rte_ok (by omega) (nb1 (by assumption) (by assumption) (by assumption))] | (rw [rtk_ok (rte_ok (by omega) (nb2 (by assumption) (by assumption)))]; rfl) | rw [rte_ok (by omega) (nb2 (by assumption) (by assumption))] | (rw [rtk_ok (rte_ok (by omega) (nb3 (by assumption) (by assumption) (by assumption) (by assumption)))]; rfl) | rw [rte_ok (by omega) (nb3 (by assumption) (by assumption) (by assumption) (by assumption))]) ?_
       refine T_slot 3 (.int .i64 ((0 : Nat) : Int)) (.int .i64 (((rte b) : Nat) : Int)) rfl (by first | rfl | (rw [rtk_no (by rw [rte_short (by omega)]; decide)]; rfl) | rw [rte_short (by omega)] | (rw [rtk_no (by rw [rte_long (by omega)]; decide)]; rfl) | rw [rte_long (by omega)] | (rw [rtk_no (by rw [rte_bad (by omega) (rb1 (by assumption))]; decide)]; rfl) | rw [rte_bad (by omega) (rb1 (by assumption))] | (rw [rtk_no (by rw [rte_bad (by omega) (rb2 (by assumption) (by assumption))]; decide)]; rfl) | rw [rte_bad (by omega) (rb2 (by assumption) (by assumption))] | (rw [rtk_no (by rw [rte_bad (by omega) (rb3 (by assumption) (by assumption))]; decide)]; rfl) | rw [rte_bad (by omega) (rb3 (by assumption) (by assumption))] | (rw [rtk_no (by rw [rte_bad (by omega) (rb4 (by assumption) (by assumption))]; decide)]; rfl) | rw [rte_bad (by omega) (rb4 (by assumption) (by assumption))] | (rw [rtk_no (by rw [rte_bad (by omega) (rb5 (by assumption) (by assumption))]; decide)]; rfl) | rw [rte_bad (by omega) (rb5 (by assumption) (by assumption))] | (rw [rtk_ok (rte_ok (by omega) (nb1 (by assumption) (by assumption) (by assumption)))]; rfl) | rw [rte_ok (by omega) (nb1 (by assumption) (by assumption) (by assumption))] | (rw [rtk_ok (rte_ok (by omega) (nb2 (by assumption) (by assumption)))]; rfl) | rw [rte_ok (by omega) (nb2 (by assumption) (by assumption))] | (rw [rtk_ok (rte_ok (by omega) (nb3 (by assumption) (by assumption) (by assumption) (by assumption)))]; rfl) | rw [rte_ok (by omega) (nb3 (by assumption) (by assumption) (by assumption) (by assumption))]) ?_
       exact T_fin () (by first | trivial | omega | (simp; done)) (resct 0 rfl rfl rfl Try.underlying43 rfl kr rfl) [] ⟨by decide, rfl⟩ rfl
end Go.Proofs.Ytlplpmkdebemnaa
namespace Go.Proofs.Ytlplpmkdebemnaa
set_option linter.unusedVariables false
set_option linter.unusedSimpArgs false
set_option linter.unnecessarySimpa false
set_option maxRecDepth 100000
open Go.RowKit Bv Fw

/-- A block's pieces. -/
def chk (b : List (BitVec 8)) (k : Nat) : List (BitVec 8) := List.take 32 (List.drop (32 * k) b)
theorem chk_len {b : List (BitVec 8)} {n k q : Nat} (hb : b.length = n) (hn : n = 32 * q) (hk : k < q) : (chk b k).length = 32 := by unfold chk; rw [List.length_take, List.length_drop]; omega
/-- Why the first so many pieces are no records; the records that they are. -/
def tke (b : List (BitVec 8)) : Nat → Nat
  | 0 => 0
  | k + 1 => if tke b k = 0 then rte (chk b k) else tke b k
def tks (b : List (BitVec 8)) : Nat → List Rc
  | 0 => []
  | k + 1 => tks b k ++ [rtk (chk b k)]
theorem tke_on {b : List (BitVec 8)} {k : Nat} (h : tke b k = 0) (h2 : rte (chk b k) = 0) : tke b (k + 1) = 0 := by rw [tke, if_pos h, h2]
theorem tke_stop {b : List (BitVec 8)} {k e : Nat} (h : tke b k = 0) (he : rte (chk b k) = e) (h2 : e ≠ 0) : ∀ m, k < m → tke b m = e
  | 0, hm => by omega
  | m + 1, hm => by
    by_cases hk : k = m
    · subst hk; rw [tke, if_pos h, he]
    · rw [tke, tke_stop h he h2 m (by omega), if_neg h2]
theorem tks_len (b : List (BitVec 8)) : ∀ k, (tks b k).length = k
  | 0 => rfl
  | k + 1 => by rw [tks, List.length_append, tks_len b k]; rfl
def bte (b : List (BitVec 8)) (z : Int) : Nat := if z < 1 ∨ 8 < z then 1 else if (b.length : Int) < z * 32 then 3 else if z * 32 < (b.length : Int) then 4 else tke b z.toNat
def btn (b : List (BitVec 8)) (z : Int) : Nat := if bte b z = 0 then z.toNat else 0
def btk (b : List (BitVec 8)) (z : Int) : List Rc := if bte b z = 0 then tks b z.toNat else []
theorem btk_len (b : List (BitVec 8)) (z : Int) : (btk b z).length = btn b z := by unfold btk btn; split <;> simp [tks_len]
theorem bte_arg {b : List (BitVec 8)} {z : Int} (h : z < 1 ∨ 8 < z) : bte b z = 1 := by unfold bte; rw [if_pos h]
theorem bte_short {b : List (BitVec 8)} {z : Int} (h1 : 1 ≤ z) (h2 : z ≤ 8) (h : (b.length : Int) < z * 32) : bte b z = 3 := by unfold bte; rw [if_neg (by omega), if_pos h]
theorem bte_long {b : List (BitVec 8)} {z : Int} (h1 : 1 ≤ z) (h2 : z ≤ 8) (h : z * 32 < (b.length : Int)) : bte b z = 4 := by unfold bte; rw [if_neg (by omega), if_neg (by omega), if_pos h]
theorem bte_ok {b : List (BitVec 8)} {z : Int} {q : Nat} (h1 : 1 ≤ z) (h2 : z ≤ 8) (h : z = (q : Int)) (hn : b.length = 32 * q) : bte b z = tke b q := by subst h; unfold bte; rw [if_neg (by omega), if_neg (by omega), if_neg (by omega)]; rfl
theorem bte_err {b : List (BitVec 8)} {z : Int} {q k : Nat} (h1 : 1 ≤ z) (h2 : z ≤ 8) (h : z = (q : Int)) (hn : b.length = 32 * q) (hk : k < q) (h0 : tke b k = 0) (he : ¬ rte (chk b k) = 0) : bte b z = rte (chk b k) := by rw [bte_ok h1 h2 h hn]; exact tke_stop h0 rfl he q hk
theorem btn_no {b : List (BitVec 8)} {z : Int} (h : bte b z ≠ 0) : btn b z = 0 := by unfold btn; rw [if_neg h]
theorem btk_no {b : List (BitVec 8)} {z : Int} (h : bte b z ≠ 0) : btk b z = [] := by unfold btk; rw [if_neg h]
theorem btn_ok {b : List (BitVec 8)} {z : Int} {q : Nat} (h : bte b z = 0) (hz : z = (q : Int)) : btn b z = q := by subst hz; unfold btn; rw [if_pos h]; rfl
theorem btk_ok {b : List (BitVec 8)} {z : Int} {q : Nat} (h : bte b z = 0) (hz : z = (q : Int)) : btk b z = tks b q := by subst hz; unfold btk; rw [if_pos h]; rfl

set_option maxHeartbeats 4000000 in
theorem btake_f (b : List (BitVec 8)) (z : Int) (A : Option Addr) (n : Nat) (c : Nat) (w : World) (hO : HOK [.rd A 1 n c (b.map b8)] w) (hb : b.length = n) (hn : n ≤ 1000000) : Calls Try.prog 21 [(.slice A n c), (.int .i64 z)].toArray w (Ret (T := Option Addr × Nat) [] w (fun ⟨B, e⟩ => True) (fun ⟨B, e⟩ => (.tuple [(.slice B (btn b z) e), (.int .i64 (((bte b z) : Nat) : Int))].toArray)) (fun ⟨B, e⟩ => [.row (.slice B (btn b z) e) 43 4 (btn b z) (rcs (btk b z))])) := by
 have hF : Wid Fence.wide := wid_wide
 refine enter_m (c := _) Try.func21 rfl [] _ [.rd A 1 n c (b.map b8)] (by rw [Try.ntmps21]; rfl) (own_rds hO rfl) ?_
 rw [Try.ntmps21]
 refine T_re [(0, (.slice A n c)), (1, (.int .i64 z))] (sc rfl (sc rfl sn)) ?_
 refine T_he [0] [.rd A 1 n c (b.map b8)] ⟨by decide, rfl⟩ ?_
 refine Tsr hF rfl ?_
 refine L_op rfl (op_alloc (z := (.slice none 0 0)) (zs := [(.slice none 0 0)]) kr rfl rfl rfl rfl (fun g1 => ?_))
 refine L_op rfl (op_alloc (z := (.int .i64 ((0 : Nat) : Int))) (zs := [(.int .i64 ((0 : Nat) : Int))]) kr rfl rfl rfl rfl (fun g2 => ?_))
 refine L_nil ?_
 refine T_seq ?_
 refine T_block ?_
 refine Tsr hF rfl ?_
 refine lm rfl rfl rfl rfl rfl ?_
 refine L_op rfl (op_cn (fun w hw => may_f z w (hok_nil w) ) (enters_of Try.func33 kr rfl) rfl rfl rfl rfl rfl (fun t3 q4 => ?_))
 refine lo rfl (pr_un rfl rfl rfl) rfl rfl ?_
 refine la rfl rfl rfl rfl rfl ?_
 refine L_nil ?_
 refine T_cond (!(mayb z)) rfl (fun hc_5 => ?_) (fun hc_5 => ?_)
 ·
  refine Tsr hF rfl ?_
  refine L_op rfl (op_store (vs := [(.slice none 0 0)]) (cs' := [(.slice none 0 0)]) 1 rfl rfl kr (one_one rfl) (by first | decide | simp | exact Nat.le_refl _) rfl rfl rfl rfl rfl ?_)
  refine L_op rfl (op_store (vs := [(.int .i64 ((1 : Nat) : Int))]) (cs' := [(.int .i64 ((1 : Nat) : Int))]) 1 rfl rfl kr (one_one rfl) (by first | decide | simp | exact Nat.le_refl _) rfl rfl rfl rfl rfl ?_)
  refine L_nil ?_
  refine T_ret ?_
  refine T_as 1 _ (.blk g1 27 [(.slice none (btn b z) 0)]) rfl (by first | rfl | (rw [btn_no (by rw [bte_arg (mayb_f (by assumption))]; decide), btk_no (by rw [bte_arg (mayb_f (by assumption))]; decide)]; rfl) | rw [btn_no (by rw [bte_arg (mayb_f (by assumption))]; decide)] | rw [bte_arg (mayb_f (by assumption))] | (rw [btn_no (by rw [bte_short hz1 hz2 (by omega)]; decide), btk_no (by rw [bte_short hz1 hz2 (by omega)]; decide)]; rfl) | rw [btn_no (by rw [bte_short hz1 hz2 (by omega)]; decide)] | rw [bte_short hz1 hz2 (by omega)] | (rw [btn_no (by rw [bte_long hz1 hz2 (by omega)]; decide), btk_no (by rw [bte_long hz1 hz2 (by omega)]; decide)]; rfl) | rw [btn_no (by rw [bte_long hz1 hz2 (by omega)]; decide)] | rw [bte_long hz1 hz2 (by omega)] | (rw [btn_no (by rw [he2]; assumption), btk_no (by rw [he2]; assumption)]; rfl) | rw [btn_no (by rw [he2]; assumption)] | rw [he2] | rw [btn_ok ((bte_ok hz1 hz2 hzq (by omega)).trans htz) hzq, btk_ok ((bte_ok hz1 hz2 hzq (by omega)).trans htz) hzq] | rw [btn_ok ((bte_ok hz1 hz2 hzq (by omega)).trans htz) hzq] | rw [(bte_ok hz1 hz2 hzq (by omega)).trans htz]) ?_
  refine T_as 1 _ (.blk g2 24 [(.int .i64 (((bte b z) : Nat) : Int))]) rfl (by first | rfl | (rw [btn_no (by rw [bte_arg (mayb_f (by assumption))]; decide), btk_no (by rw [bte_arg (mayb_f (by assumption))]; decide)]; rfl) | rw [btn_no (by rw [bte_arg (mayb_f (by assumption))]; decide)] | rw [bte_arg (mayb_f (by assumption))] | (rw [btn_no (by rw [bte_short hz1 hz2 (by omega)]; decide), btk_no (by rw [bte_short hz1 hz2 (by omega)]; decide)]; rfl) | rw [btn_no (by rw [bte_short hz1 hz2 (by omega)]; decide)] | rw [bte_short hz1 hz2 (by omega)] | (rw [btn_no (by rw [bte_long hz1 hz2 (by omega)]; decide), btk_no (by rw [bte_long hz1 hz2 (by omega)]; decide)]; rfl) | rw [btn_no (by rw [bte_long hz1 hz2 (by omega)]; decide)] | rw [bte_long hz1 hz2 (by omega)] | (rw [btn_no (by rw [he2]; assumption), btk_no (by rw [he2]; assumption)]; rfl) | rw [btn_no (by rw [he2]; assumption)] | rw [he2] | rw [btn_ok ((bte_ok hz1 hz2 hzq (by omega)).trans htz) hzq, btk_ok ((bte_ok hz1 hz2 hzq (by omega)).trans htz) hzq] | rw [btn_ok ((bte_ok hz1 hz2 hzq (by omega)).trans htz) hzq] | rw [(bte_ok hz1 hz2 hzq (by omega)).trans htz]) ?_
  refine T_nilrow 43 4 ?_
  refine T_as 0 _ (.row (.slice none (btn b z) 0) 43 4 (btn b z) (rcs (btk b z))) rfl (by first | rfl | (rw [btn_no (by rw [bte_arg (mayb_f (by assumption))]; decide), btk_no (by rw [bte_arg (mayb_f (by assumption))]; decide)]; rfl) | rw [btn_no (by rw [bte_arg (mayb_f (by assumption))]; decide)] | rw [bte_arg (mayb_f (by assumption))] | (rw [btn_no (by rw [bte_short hz1 hz2 (by omega)]; decide), btk_no (by rw [bte_short hz1 hz2 (by omega)]; decide)]; rfl) | rw [btn_no (by rw [bte_short hz1 hz2 (by omega)]; decide)] | rw [bte_short hz1 hz2 (by omega)] | (rw [btn_no (by rw [bte_long hz1 hz2 (by omega)]; decide), btk_no (by rw [bte_long hz1 hz2 (by omega)]; decide)]; rfl) | rw [btn_no (by rw [bte_long hz1 hz2 (by omega)]; decide)] | rw [bte_long hz1 hz2 (by omega)] | (rw [btn_no (by rw [he2]; assumption), btk_no (by rw [he2]; assumption)]; rfl) | rw [btn_no (by rw [he2]; assumption)] | rw [he2] | rw [btn_ok ((bte_ok hz1 hz2 hzq (by omega)).trans htz) hzq, btk_ok ((bte_ok hz1 hz2 hzq (by omega)).trans htz) hzq] | rw [btn_ok ((bte_ok hz1 hz2 hzq (by omega)).trans htz) hzq] | rw [(bte_ok hz1 hz2 hzq (by omega)).trans htz]) ?_
  exact T_finM0 (none, 0) (by first | trivial | omega | (simp; done)) (rescc 2 1 rfl rfl rfl rfl rfl Try.underlying27 rfl Try.underlying24 rfl) [0] ⟨by decide, rfl⟩ rfl
 ·
  refine Tsr hF rfl ?_
  refine lm rfl rfl rfl rfl rfl ?_
  obtain ⟨hz1, hz2⟩ := mayb_t (z := z) (by assumption)
  refine lo rfl (pr_len_sl Try.underlying23 rfl rfl) rfl rfl ?_
  refine lm rfl rfl rfl rfl rfl ?_
  refine lo rfl (pr_mul (zw_i64 (z := (z * ((32 : Nat) : Int))) sd) rfl rfl rfl) rfl rfl ?_
  refine lo rfl (pr_cmp (bo := .lss) (k := .i64) (a := ((n : Nat) : Int)) (b := (z * ((32 : Nat) : Int))) (c := decide (((n : Nat) : Int) < (z * ((32 : Nat) : Int)))) rfl rfl rfl rfl rfl) rfl rfl ?_
  refine la rfl rfl rfl rfl rfl ?_
  refine L_nil ?_
  refine T_cond (decide (((n : Nat) : Int) < (z * ((32 : Nat) : Int)))) rfl (fun hc_6 => ?_) (fun hc_6 => ?_)
  ·
   have hc_6 := of_decide_eq_true hc_6
   refine Tsr hF rfl ?_
   refine L_op rfl (op_store (vs := [(.slice none 0 0)]) (cs' := [(.slice none 0 0)]) 1 rfl rfl kr (one_one rfl) (by first | decide | simp | exact Nat.le_refl _) rfl rfl rfl rfl rfl ?_)
   refine L_op rfl (op_store (vs := [(.int .i64 ((3 : Nat) : Int))]) (cs' := [(.int .i64 ((3 : Nat) : Int))]) 1 rfl rfl kr (one_one rfl) (by first | decide | simp | exact Nat.le_refl _) rfl rfl rfl rfl rfl ?_)
   refine L_nil ?_
   refine T_ret ?_
   refine T_as 1 _ (.blk g1 27 [(.slice none (btn b z) 0)]) rfl (by first | rfl | (rw [btn_no (by rw [bte_arg (mayb_f (by assumption))]; decide), btk_no (by rw [bte_arg (mayb_f (by assumption))]; decide)]; rfl) | rw [btn_no (by rw [bte_arg (mayb_f (by assumption))]; decide)] | rw [bte_arg (mayb_f (by assumption))] | (rw [btn_no (by rw [bte_short hz1 hz2 (by omega)]; decide), btk_no (by rw [bte_short hz1 hz2 (by omega)]; decide)]; rfl) | rw [btn_no (by rw [bte_short hz1 hz2 (by omega)]; decide)] | rw [bte_short hz1 hz2 (by omega)] | (rw [btn_no (by rw [bte_long hz1 hz2 (by omega)]; decide), btk_no (by rw [bte_long hz1 hz2 (by omega)]; decide)]; rfl) | rw [btn_no (by rw [bte_long hz1 hz2 (by omega)]; decide)] | rw [bte_long hz1 hz2 (by omega)] | (rw [btn_no (by rw [he2]; assumption), btk_no (by rw [he2]; assumption)]; rfl) | rw [btn_no (by rw [he2]; assumption)] | rw [he2] | rw [btn_ok ((bte_ok hz1 hz2 hzq (by omega)).trans htz) hzq, btk_ok ((bte_ok hz1 hz2 hzq (by omega)).trans htz) hzq] | rw [btn_ok ((bte_ok hz1 hz2 hzq (by omega)).trans htz) hzq] | rw [(bte_ok hz1 hz2 hzq (by omega)).trans htz]) ?_
   refine T_as 1 _ (.blk g2 24 [(.int .i64 (((bte b z) : Nat) : Int))]) rfl (by first | rfl | (rw [btn_no (by rw [bte_arg (mayb_f (by assumption))]; decide), btk_no (by rw [bte_arg (mayb_f (by assumption))]; decide)]; rfl) | rw [btn_no (by rw [bte_arg (mayb_f (by assumption))]; decide)] | rw [bte_arg (mayb_f (by assumption))] | (rw [btn_no (by rw [bte_short hz1 hz2 (by omega)]; decide), btk_no (by rw [bte_short hz1 hz2 (by omega)]; decide)]; rfl) | rw [btn_no (by rw [bte_short hz1 hz2 (by omega)]; decide)] | rw [bte_short hz1 hz2 (by omega)] | (rw [btn_no (by rw [bte_long hz1 hz2 (by omega)]; decide), btk_no (by rw [bte_long hz1 hz2 (by omega)]; decide)]; rfl) | rw [btn_no (by rw [bte_long hz1 hz2 (by omega)]; decide)] | rw [bte_long hz1 hz2 (by omega)] | (rw [btn_no (by rw [he2]; assumption), btk_no (by rw [he2]; assumption)]; rfl) | rw [btn_no (by rw [he2]; assumption)] | rw [he2] | rw [btn_ok ((bte_ok hz1 hz2 hzq (by omega)).trans htz) hzq, btk_ok ((bte_ok hz1 hz2 hzq (by omega)).trans htz) hzq] | rw [btn_ok ((bte_ok hz1 hz2 hzq (by omega)).trans htz) hzq] | rw [(bte_ok hz1 hz2 hzq (by omega)).trans htz]) ?_
   refine T_nilrow 43 4 ?_
   refine T_as 0 _ (.row (.slice none (btn b z) 0) 43 4 (btn b z) (rcs (btk b z))) rfl (by first | rfl | (rw [btn_no (by rw [bte_arg (mayb_f (by assumption))]; decide), btk_no (by rw [bte_arg (mayb_f (by assumption))]; decide)]; rfl) | rw [btn_no (by rw [bte_arg (mayb_f (by assumption))]; decide)] | rw [bte_arg (mayb_f (by assumption))] | (rw [btn_no (by rw [bte_short hz1 hz2 (by omega)]; decide), btk_no (by rw [bte_short hz1 hz2 (by omega)]; decide)]; rfl) | rw [btn_no (by rw [bte_short hz1 hz2 (by omega)]; decide)] | rw [bte_short hz1 hz2 (by omega)] | (rw [btn_no (by rw [bte_long hz1 hz2 (by omega)]; decide), btk_no (by rw [bte_long hz1 hz2 (by omega)]; decide)]; rfl) | rw [btn_no (by rw [bte_long hz1 hz2 (by omega)]; decide)] | rw [bte_long hz1 hz2 (by omega)] | (rw [btn_no (by rw [he2]; assumption), btk_no (by rw [he2]; assumption)]; rfl) | rw [btn_no (by rw [he2]; assumption)] | rw [he2] | rw [btn_ok ((bte_ok hz1 hz2 hzq (by omega)).trans htz) hzq, btk_ok ((bte_ok hz1 hz2 hzq (by omega)).trans htz) hzq] | rw [btn_ok ((bte_ok hz1 hz2 hzq (by omega)).trans htz) hzq] | rw [(bte_ok hz1 hz2 hzq (by omega)).trans htz]) ?_
   exact T_finM0 (none, 0) (by first | trivial | omega | (simp; done)) (rescc 2 1 rfl rfl rfl rfl rfl Try.underlying27 rfl Try.underlying24 rfl) [0] ⟨by decide, rfl⟩ rfl
  ·
   have hc_6 := of_decide_eq_false hc_6
   refine Tsr hF rfl ?_
   refine lm rfl rfl rfl rfl rfl ?_
   refine lo rfl (pr_len_sl Try.underlying23 rfl rfl) rfl rfl ?_
   refine lm rfl rfl rfl rfl rfl ?_
   refine lo rfl (pr_mul (zw_i64 (z := (z * ((32 : Nat) : Int))) sd) rfl rfl rfl) rfl rfl ?_
   refine lo rfl (pr_cmp (bo := .gtr) (k := .i64) (a := ((n : Nat) : Int)) (b := (z * ((32 : Nat) : Int))) (c := decide ((z * ((32 : Nat) : Int)) < ((n : Nat) : Int))) rfl rfl rfl rfl rfl) rfl rfl ?_
   refine la rfl rfl rfl rfl rfl ?_
   refine L_nil ?_
   refine T_cond (decide ((z * ((32 : Nat) : Int)) < ((n : Nat) : Int))) rfl (fun hc_7 => ?_) (fun hc_7 => ?_)
   ·
    have hc_7 := of_decide_eq_true hc_7
    refine Tsr hF rfl ?_
    refine L_op rfl (op_store (vs := [(.slice none 0 0)]) (cs' := [(.slice none 0 0)]) 1 rfl rfl kr (one_one rfl) (by first | decide | simp | exact Nat.le_refl _) rfl rfl rfl rfl rfl ?_)
    refine L_op rfl (op_store (vs := [(.int .i64 ((4 : Nat) : Int))]) (cs' := [(.int .i64 ((4 : Nat) : Int))]) 1 rfl rfl kr (one_one rfl) (by first | decide | simp | exact Nat.le_refl _) rfl rfl rfl rfl rfl ?_)
    refine L_nil ?_
    refine T_ret ?_
    refine T_as 1 _ (.blk g1 27 [(.slice none (btn b z) 0)]) rfl (by first | rfl | (rw [btn_no (by rw [bte_arg (mayb_f (by assumption))]; decide), btk_no (by rw [bte_arg (mayb_f (by assumption))]; decide)]; rfl) | rw [btn_no (by rw [bte_arg (mayb_f (by assumption))]; decide)] | rw [bte_arg (mayb_f (by assumption))] | (rw [btn_no (by rw [bte_short hz1 hz2 (by omega)]; decide), btk_no (by rw [bte_short hz1 hz2 (by omega)]; decide)]; rfl) | rw [btn_no (by rw [bte_short hz1 hz2 (by omega)]; decide)] | rw [bte_short hz1 hz2 (by omega)] | (rw [btn_no (by rw [bte_long hz1 hz2 (by omega)]; decide), btk_no (by rw [bte_long hz1 hz2 (by omega)]; decide)]; rfl) | rw [btn_no (by rw [bte_long hz1 hz2 (by omega)]; decide)] | rw [bte_long hz1 hz2 (by omega)] | (rw [btn_no (by rw [he2]; assumption), btk_no (by rw [he2]; assumption)]; rfl) | rw [btn_no (by rw [he2]; assumption)] | rw [he2] | rw [btn_ok ((bte_ok hz1 hz2 hzq (by omega)).trans htz) hzq, btk_ok ((bte_ok hz1 hz2 hzq (by omega)).trans htz) hzq] | rw [btn_ok ((bte_ok hz1 hz2 hzq (by omega)).trans htz) hzq] | rw [(bte_ok hz1 hz2 hzq (by omega)).trans htz]) ?_
    refine T_as 1 _ (.blk g2 24 [(.int .i64 (((bte b z) : Nat) : Int))]) rfl (by first | rfl | (rw [btn_no (by rw [bte_arg (mayb_f (by assumption))]; decide), btk_no (by rw [bte_arg (mayb_f (by assumption))]; decide)]; rfl) | rw [btn_no (by rw [bte_arg (mayb_f (by assumption))]; decide)] | rw [bte_arg (mayb_f (by assumption))] | (rw [btn_no (by rw [bte_short hz1 hz2 (by omega)]; decide), btk_no (by rw [bte_short hz1 hz2 (by omega)]; decide)]; rfl) | rw [btn_no (by rw [bte_short hz1 hz2 (by omega)]; decide)] | rw [bte_short hz1 hz2 (by omega)] | (rw [btn_no (by rw [bte_long hz1 hz2 (by omega)]; decide), btk_no (by rw [bte_long hz1 hz2 (by omega)]; decide)]; rfl) | rw [btn_no (by rw [bte_long hz1 hz2 (by omega)]; decide)] | rw [bte_long hz1 hz2 (by omega)] | (rw [btn_no (by rw [he2]; assumption), btk_no (by rw [he2]; assumption)]; rfl) | rw [btn_no (by rw [he2]; assumption)] | rw [he2] | rw [btn_ok ((bte_ok hz1 hz2 hzq (by omega)).trans htz) hzq, btk_ok ((bte_ok hz1 hz2 hzq (by omega)).trans htz) hzq] | rw [btn_ok ((bte_ok hz1 hz2 hzq (by omega)).trans htz) hzq] | rw [(bte_ok hz1 hz2 hzq (by omega)).trans htz]) ?_
    refine T_nilrow 43 4 ?_
    refine T_as 0 _ (.row (.slice none (btn b z) 0) 43 4 (btn b z) (rcs (btk b z))) rfl (by first | rfl | (rw [btn_no (by rw [bte_arg (mayb_f (by assumption))]; decide), btk_no (by rw [bte_arg (mayb_f (by assumption))]; decide)]; rfl) | rw [btn_no (by rw [bte_arg (mayb_f (by assumption))]; decide)] | rw [bte_arg (mayb_f (by assumption))] | (rw [btn_no (by rw [bte_short hz1 hz2 (by omega)]; decide), btk_no (by rw [bte_short hz1 hz2 (by omega)]; decide)]; rfl) | rw [btn_no (by rw [bte_short hz1 hz2 (by omega)]; decide)] | rw [bte_short hz1 hz2 (by omega)] | (rw [btn_no (by rw [bte_long hz1 hz2 (by omega)]; decide), btk_no (by rw [bte_long hz1 hz2 (by omega)]; decide)]; rfl) | rw [btn_no (by rw [bte_long hz1 hz2 (by omega)]; decide)] | rw [bte_long hz1 hz2 (by omega)] | (rw [btn_no (by rw [he2]; assumption), btk_no (by rw [he2]; assumption)]; rfl) | rw [btn_no (by rw [he2]; assumption)] | rw [he2] | rw [btn_ok ((bte_ok hz1 hz2 hzq (by omega)).trans htz) hzq, btk_ok ((bte_ok hz1 hz2 hzq (by omega)).trans htz) hzq] | rw [btn_ok ((bte_ok hz1 hz2 hzq (by omega)).trans htz) hzq] | rw [(bte_ok hz1 hz2 hzq (by omega)).trans htz]) ?_
    exact T_finM0 (none, 0) (by first | trivial | omega | (simp; done)) (rescc 2 1 rfl rfl rfl rfl rfl Try.underlying27 rfl Try.underlying24 rfl) [0] ⟨by decide, rfl⟩ rfl
   ·
    have hc_7 := of_decide_eq_false hc_7
    refine T_skip ?_
    refine Tsr hF rfl ?_
    refine L_op rfl (op_alloc (z := (.slice none 0 0)) (zs := [(.slice none 0 0)]) kr rfl rfl rfl rfl (fun g8 => ?_))
    obtain ⟨q, hzq⟩ : ∃ q : Nat, z = (q : Int) := ⟨z.toNat, by omega⟩
    have hnq : n = 32 * q := by omega
    refine L_nil ?_
    refine T_seq ?_
    refine Tsr hF rfl ?_
    refine lm rfl rfl rfl rfl rfl ?_
    refine L_op rfl (op_cn (fun w hw => chunk_f A n c 32 w (hok_nil w) sd) (enters_of Try.func44 kr rfl) rfl rfl rfl rfl rfl (fun t9 q10 => ?_))
    obtain ⟨g1_11, g2_12⟩ := t9
    refine L_nil ?_
    refine T_block ?_
    refine T_tord 0 rfl ?_
    refine T_tord 1 rfl ?_
    refine T_nilrow 43 4 ?_
    refine T_as 0 _ (.row (.slice none 0 0) 43 4 0 (rcs (tks b 0))) rfl (by first | rfl | simp | (congr 1; simp)) ?_
    refine T_rangeR (Θ := Option Addr) (T := Option Addr × Nat) (Tx := Nat) (cap := [(.pointer (some ⟨g1_11, 0, none⟩)), (.pointer (some ⟨g2_12, 0, none⟩))]) (ps := [28]) (chunk_seq b 32 A n c g1_11 g2_12 sd sd sd sd) rfl (enters_of Try.func65 kr rfl) (fun k ⟨A1, c1⟩ => k ≤ q ∧ tke b k = 0) (fun k ⟨A1, c1⟩ => [.row (.slice A1 k c1) 43 4 k (rcs (tks b k)), .rd (some ⟨g1_11, 0, none⟩) 1 1 1 [(.slice A n c)], .blk g8 27 [(.slice A1 k c1)], .blk g2 24 [(.int .i64 ((0 : Nat) : Int))], .blk g1 27 [(.slice none 0 0)], .rd A 1 n c (b.map b8)]) (fun er => ¬ er = 0 ∧ bte b z = er) (fun er => [.blk g1 27 [(.slice none 0 0)], .blk g2 24 [(.int .i64 ((er : Nat) : Int))]])  (none, 0) (⟨by omega, rfl⟩) [0, 2, 3, 4, 5, 6] ⟨by decide, rfl⟩ [2, 1, 6] rfl rfl (fun _ _ => rfl) (fun _ => rfl) (fun _ _ => rfl) (fun _ _ => rfl) rfl (fun _ => trivial) ?_ ?_ ?_
    ·
     intro C2 w2 lo2 rs2 l D m k t th rc hrec hk hp
     obtain ⟨A1, c1⟩ := t
     obtain ⟨B, rfl⟩ : ∃ x, x = th := ⟨_, rfl⟩
     have hp : k ≤ q ∧ tke b k = 0 := hp
     have hk : k < (n + 32 - 1) / 32 := hk
     have hmin : min 32 (n - 32 * k) = 32 := by omega
     have hkq : k < q := by omega
     have hcl := chk_len hb hnq hkq
     have hF : Wid (Fence.wide.inRound l) := wid_round l
     refine T_re [(4, (.pointer (some ⟨g1, 0, none⟩))), (5, (.pointer (some ⟨g2, 0, none⟩))), (6, (.pointer (some ⟨g8, 0, none⟩))), (28, (.slice B (min 32 (n - 32 * k)) (min 32 (n - 32 * k))))] (sc rfl (sc rfl (sc rfl (sc rfl sn)))) ?_
     refine T_he [0, 1, 2, 3, 4, 5, 6, 7, 8] [.rd B 1 (min 32 (n - 32 * k)) (min 32 (n - 32 * k)) ((List.take (min 32 (n - 32 * k)) (List.drop (32 * k) b)).map b8), .obj l (.loop rc), .obj D (.deferred (some [])), .row (.slice A1 k c1) 43 4 k (rcs (tks b k)), .rd (some ⟨g1_11, 0, none⟩) 1 1 1 [(.slice A n c)], .blk g8 27 [(.slice A1 k c1)], .blk g2 24 [(.int .i64 ((0 : Nat) : Int))], .blk g1 27 [(.slice none 0 0)], .rd A 1 n c (b.map b8)] ⟨by decide, rfl⟩ ?_
     refine T_slot 28 (.slice B (min 32 (n - 32 * k)) (min 32 (n - 32 * k))) (.slice B 32 32) rfl (by rw [hmin]) ?_
     refine T_as 0 _ (.rd B 1 32 32 ((chk b k).map b8)) rfl (by rw [hmin]; rfl) ?_
     refine T_reg hF rfl ?_
     refine la rfl rfl rfl rfl rfl ?_
     refine L_nil ?_
     refine T_begun 1 rfl hrec ?_
     refine T_block ?_
     refine Tsr hF rfl ?_
     refine lm rfl rfl rfl rfl rfl ?_
     refine L_op rfl (op_cn (fun w hw => rtake_f (chk b k) B 32 32 w (hok_cons ((src_rd 1 rfl) w hw) (hok_nil w)) sd sd) (enters_of Try.func45 kr rfl) rfl rfl rfl rfl rfl (fun t13 q14 => ?_))
     refine lm rfl rfl rfl rfl rfl ?_
     refine lo rfl (pr_ext (vs := [(.agg [(.bool ((rtk (chk b k)).d)), (.int .i64 (i64 (rtk (chk b k)).k)), (.int .i64 (i64 (rtk (chk b k)).v)), (.int .i64 (i64 (rtk (chk b k)).s))].toArray), (.int .i64 (((rte (chk b k)) : Nat) : Int))]) rfl rfl rfl) rfl rfl ?_
     refine lo rfl (pr_ext (vs := [(.agg [(.bool ((rtk (chk b k)).d)), (.int .i64 (i64 (rtk (chk b k)).k)), (.int .i64 (i64 (rtk (chk b k)).v)), (.int .i64 (i64 (rtk (chk b k)).s))].toArray), (.int .i64 (((rte (chk b k)) : Nat) : Int))]) rfl rfl rfl) rfl rfl ?_
     refine L_op rfl (op_alloc (z := .agg [(.bool false), (.int .i64 ((0 : Nat) : Int)), (.int .i64 ((0 : Nat) : Int)), (.int .i64 ((0 : Nat) : Int))].toArray) (zs := [(.bool false), (.int .i64 ((0 : Nat) : Int)), (.int .i64 ((0 : Nat) : Int)), (.int .i64 ((0 : Nat) : Int))]) kr rfl rfl rfl rfl (fun g15 => ?_))
     refine L_op rfl (op_sto (n := 4) (vs := [(.bool ((rtk (chk b k)).d)), (.int .i64 (i64 (rtk (chk b k)).k)), (.int .i64 (i64 (rtk (chk b k)).v)), (.int .i64 (i64 (rtk (chk b k)).s))]) 0 rfl rfl kr (by simp [Value.oneCell']) kr kr rfl rfl rfl rfl ?_)
     refine la rfl rfl rfl rfl rfl ?_
     refine L_nil ?_
     refine T_seq ?_
     refine Tsr hF rfl ?_
     refine lm rfl rfl rfl rfl rfl ?_
     refine lo rfl (pr_cmp (bo := .neq) (nc_ne (a := (rte (chk b k))) (b := 0)) rfl rfl rfl rfl) rfl rfl ?_
     refine L_nil ?_
     refine T_cond ((rte (chk b k)) != 0) rfl (fun hc_16 => ?_) (fun hc_16 => ?_)
     ·
      have hc_16 : ¬ (rte (chk b k)) = 0 := by simpa using hc_16
      refine Tsr hF rfl ?_
      refine lm rfl rfl rfl rfl rfl ?_
      refine L_op rfl (op_store (vs := [(.slice none 0 0)]) (cs' := [(.slice none 0 0)]) 8 rfl rfl kr (one_one rfl) (by first | decide | simp | exact Nat.le_refl _) rfl rfl rfl rfl rfl ?_)
      refine L_op rfl (op_store (vs := [(.int .i64 (((rte (chk b k)) : Nat) : Int))]) (cs' := [(.int .i64 (((rte (chk b k)) : Nat) : Int))]) 8 rfl rfl kr (one_one rfl) (by first | decide | simp | exact Nat.le_refl _) rfl rfl rfl rfl rfl ?_)
      refine L_nil ?_
      refine T_ret ?_
      exact T_on (rte (chk b k)) (⟨by assumption, bte_err hz1 hz2 hzq (by omega) hkq hp.2 (by assumption)⟩) [3, 5, 1, 0] ⟨by decide, rfl⟩
     ·
      have hc_16 : (rte (chk b k)) = 0 := by simpa using hc_16
      refine T_skip ?_
      refine T_reg hF rfl ?_
      refine lq rfl (ld_blk 6 rfl rfl Try.underlying27 rfl rfl rfl) rfl rfl ?_
      refine lq rfl (ld_agg (ds := [(.bool ((rtk (chk b k)).d)), (.int .i64 (i64 (rtk (chk b k)).k)), (.int .i64 (i64 (rtk (chk b k)).v)), (.int .i64 (i64 (rtk (chk b k)).s))]) 0 rfl agg_all Try.underlying43 rfl kr rfl rfl) rfl rfl ?_
      refine L_op rfl (op_bslice (e := 43) (zs := [(.bool ((rtk (chk b k)).d)), (.int .i64 (i64 (rtk (chk b k)).k)), (.int .i64 (i64 (rtk (chk b k)).v)), (.int .i64 (i64 (rtk (chk b k)).s))]) (qs := [(0, (.agg [(.bool ((rtk (chk b k)).d)), (.int .i64 (i64 (rtk (chk b k)).k)), (.int .i64 (i64 (rtk (chk b k)).v)), (.int .i64 (i64 (rtk (chk b k)).s))].toArray))]) (fun _ => by kernel_rfl) rfl rfl rfl rfl (fun g17 => ?_))
      refine L_op rfl (op_append (z := .agg [(.bool false), (.int .i64 ((0 : Nat) : Int)), (.int .i64 ((0 : Nat) : Int)), (.int .i64 ((0 : Nat) : Int))].toArray) (size := 4) (bytes := 32) 5 rfl Try.underlying27 kr kr (by decide) (src_blk (z := 4) (ds := [(.bool ((rtk (chk b k)).d)), (.int .i64 (i64 (rtk (chk b k)).k)), (.int .i64 (i64 (rtk (chk b k)).v)), (.int .i64 (i64 (rtk (chk b k)).s))]) 0 rfl rfl rfl sd sd) (by simp [Value.oneCell']) sd sd rfl rfl rfl rfl rfl (fun A18 C19 => ?_))
      refine T_as 0 _ (.row (.slice A18 (k + 1) C19) 43 4 (k + 1) (rcs ((tks b k) ++ [(Rc.mk ((rtk (chk b k)).d) ((rtk (chk b k)).k) ((rtk (chk b k)).v) ((rtk (chk b k)).s))]))) rfl (by first | rfl | (congr 1; simp; done) | (simp only [List.map_append]; rfl) | (rw [List.map_append]; rfl) | (rw [rcs_app]; rfl)) ?_
      refine L_op rfl (op_store (vs := [(.slice A18 (k + 1) C19)]) (cs' := [(.slice A18 (k + 1) C19)]) 7 rfl rfl kr (one_one rfl) (by first | decide | simp | exact Nat.le_refl _) rfl rfl rfl rfl rfl ?_)
      refine L_nil ?_
      refine T_as 1 _ (.row (.slice A18 (k + 1) C19) 43 4 (k + 1) (rcs (tks b (k + 1)))) rfl (by rfl) ?_
      exact T_on (A18, C19) (⟨by omega, tke_on hp.2 (by assumption)⟩) [4, 6, 0, 7, 1, 8, 9, 10] ⟨by decide, rfl⟩
    ·
     intro D t hp
     obtain ⟨A1, c1⟩ := t
     have hp : ((n + 32 - 1) / 32) ≤ q ∧ tke b ((n + 32 - 1) / 32) = 0 := hp
     have hnv : (n + 32 - 1) / 32 = q := by omega
     have htz : tke b q = 0 := hnv ▸ hp.2
     refine T_re [(4, (.pointer (some ⟨g1, 0, none⟩))), (5, (.pointer (some ⟨g2, 0, none⟩))), (6, (.pointer (some ⟨g8, 0, none⟩)))] (sc rfl (sc rfl (sc rfl sn))) ?_
     refine T_he [0, 1, 2, 3, 4, 5, 6] [.obj D (.deferred (some [])), .row (.slice A1 ((n + 32 - 1) / 32) c1) 43 4 ((n + 32 - 1) / 32) (rcs (tks b ((n + 32 - 1) / 32))), .rd (some ⟨g1_11, 0, none⟩) 1 1 1 [(.slice A n c)], .blk g8 27 [(.slice A1 ((n + 32 - 1) / 32) c1)], .blk g2 24 [(.int .i64 ((0 : Nat) : Int))], .blk g1 27 [(.slice none 0 0)], .rd A 1 n c (b.map b8)] ⟨by decide, rfl⟩ ?_
     refine T_as 1 _ (.row (.slice A1 q c1) 43 4 q (rcs (tks b q))) rfl (by rw [hnv]) ?_
     refine T_as 3 _ (.blk g8 27 [(.slice A1 q c1)]) rfl (by rw [hnv]) ?_
     refine Tsr hF rfl ?_
     refine lq rfl (ld_blk 0 rfl rfl Try.underlying27 rfl rfl rfl) rfl rfl ?_
     refine L_op rfl (op_store (vs := [(.slice A1 q c1)]) (cs' := [(.slice A1 q c1)]) 5 rfl rfl kr (one_one rfl) (by first | decide | simp | exact Nat.le_refl _) rfl rfl rfl rfl rfl ?_)
     refine L_op rfl (op_store (vs := [(.int .i64 ((0 : Nat) : Int))]) (cs' := [(.int .i64 ((0 : Nat) : Int))]) 5 rfl rfl kr (one_one rfl) (by first | decide | simp | exact Nat.le_refl _) rfl rfl rfl rfl rfl ?_)
     refine L_nil ?_
     refine T_ret ?_
     refine T_as 1 _ (.blk g1 27 [(.slice A1 (btn b z) c1)]) rfl (by first | rfl | (rw [btn_no (by rw [bte_arg (mayb_f (by assumption))]; decide), btk_no (by rw [bte_arg (mayb_f (by assumption))]; decide)]; rfl) | rw [btn_no (by rw [bte_arg (mayb_f (by assumption))]; decide)] | rw [bte_arg (mayb_f (by assumption))] | (rw [btn_no (by rw [bte_short hz1 hz2 (by omega)]; decide), btk_no (by rw [bte_short hz1 hz2 (by omega)]; decide)]; rfl) | rw [btn_no (by rw [bte_short hz1 hz2 (by omega)]; decide)] | rw [bte_short hz1 hz2 (by omega)] | (rw [btn_no (by rw [bte_long hz1 hz2 (by omega)]; decide), btk_no (by rw [bte_long hz1 hz2 (by omega)]; decide)]; rfl) | rw [btn_no (by rw [bte_long hz1 hz2 (by omega)]; decide)] | rw [bte_long hz1 hz2 (by omega)] | (rw [btn_no (by rw [he2]; assumption), btk_no (by rw [he2]; assumption)]; rfl) | rw [btn_no (by rw [he2]; assumption)] | rw [he2] | rw [btn_ok ((bte_ok hz1 hz2 hzq (by omega)).trans htz) hzq, btk_ok ((bte_ok hz1 hz2 hzq (by omega)).trans htz) hzq] | rw [btn_ok ((bte_ok hz1 hz2 hzq (by omega)).trans htz) hzq] | rw [(bte_ok hz1 hz2 hzq (by omega)).trans htz]) ?_
     refine T_as 1 _ (.blk g2 24 [(.int .i64 (((bte b z) : Nat) : Int))]) rfl (by first | rfl | (rw [btn_no (by rw [bte_arg (mayb_f (by assumption))]; decide), btk_no (by rw [bte_arg (mayb_f (by assumption))]; decide)]; rfl) | rw [btn_no (by rw [bte_arg (mayb_f (by assumption))]; decide)] | rw [bte_arg (mayb_f (by assumption))] | (rw [btn_no (by rw [bte_short hz1 hz2 (by omega)]; decide), btk_no (by rw [bte_short hz1 hz2 (by omega)]; decide)]; rfl) | rw [btn_no (by rw [bte_short hz1 hz2 (by omega)]; decide)] | rw [bte_short hz1 hz2 (by omega)] | (rw [btn_no (by rw [bte_long hz1 hz2 (by omega)]; decide), btk_no (by rw [bte_long hz1 hz2 (by omega)]; decide)]; rfl) | rw [btn_no (by rw [bte_long hz1 hz2 (by omega)]; decide)] | rw [bte_long hz1 hz2 (by omega)] | (rw [btn_no (by rw [he2]; assumption), btk_no (by rw [he2]; assumption)]; rfl) | rw [btn_no (by rw [he2]; assumption)] | rw [he2] | rw [btn_ok ((bte_ok hz1 hz2 hzq (by omega)).trans htz) hzq, btk_ok ((bte_ok hz1 hz2 hzq (by omega)).trans htz) hzq] | rw [btn_ok ((bte_ok hz1 hz2 hzq (by omega)).trans htz) hzq] | rw [(bte_ok hz1 hz2 hzq (by omega)).trans htz]) ?_
     refine T_as 3 _ (.row (.slice A1 (btn b z) c1) 43 4 (btn b z) (rcs (btk b z))) rfl (by first | rfl | (rw [btn_no (by rw [bte_arg (mayb_f (by assumption))]; decide), btk_no (by rw [bte_arg (mayb_f (by assumption))]; decide)]; rfl) | rw [btn_no (by rw [bte_arg (mayb_f (by assumption))]; decide)] | rw [bte_arg (mayb_f (by assumption))] | (rw [btn_no (by rw [bte_short hz1 hz2 (by omega)]; decide), btk_no (by rw [bte_short hz1 hz2 (by omega)]; decide)]; rfl) | rw [btn_no (by rw [bte_short hz1 hz2 (by omega)]; decide)] | rw [bte_short hz1 hz2 (by omega)] | (rw [btn_no (by rw [bte_long hz1 hz2 (by omega)]; decide), btk_no (by rw [bte_long hz1 hz2 (by omega)]; decide)]; rfl) | rw [btn_no (by rw [bte_long hz1 hz2 (by omega)]; decide)] | rw [bte_long hz1 hz2 (by omega)] | (rw [btn_no (by rw [he2]; assumption), btk_no (by rw [he2]; assumption)]; rfl) | rw [btn_no (by rw [he2]; assumption)] | rw [he2] | rw [btn_ok ((bte_ok hz1 hz2 hzq (by omega)).trans htz) hzq, btk_ok ((bte_ok hz1 hz2 hzq (by omega)).trans htz) hzq] | rw [btn_ok ((bte_ok hz1 hz2 hzq (by omega)).trans htz) hzq] | rw [(bte_ok hz1 hz2 hzq (by omega)).trans htz]) ?_
     exact T_finM 4 rfl (A1, c1) (by first | trivial | omega | (simp; done)) (rescc 2 1 rfl rfl rfl rfl rfl Try.underlying27 rfl Try.underlying24 rfl) [0] ⟨by decide, rfl⟩ rfl
    ·
     intro D t hq
     obtain ⟨er, rfl⟩ : ∃ x, x = t := ⟨_, rfl⟩
     have hq : ¬ er = 0 ∧ bte b z = er := hq
     obtain ⟨he1, he2⟩ := hq
     refine T_ret ?_
     refine T_re [(4, (.pointer (some ⟨g1, 0, none⟩))), (5, (.pointer (some ⟨g2, 0, none⟩)))] (sc rfl (sc rfl sn)) ?_
     refine T_he [0, 1, 2] [.obj D (.deferred (some [])), .blk g1 27 [(.slice none 0 0)], .blk g2 24 [(.int .i64 ((er : Nat) : Int))]] ⟨by decide, rfl⟩ ?_
     refine T_as 1 _ (.blk g1 27 [(.slice none (btn b z) 0)]) rfl (by first | rfl | (rw [btn_no (by rw [bte_arg (mayb_f (by assumption))]; decide), btk_no (by rw [bte_arg (mayb_f (by assumption))]; decide)]; rfl) | rw [btn_no (by rw [bte_arg (mayb_f (by assumption))]; decide)] | rw [bte_arg (mayb_f (by assumption))] | (rw [btn_no (by rw [bte_short hz1 hz2 (by omega)]; decide), btk_no (by rw [bte_short hz1 hz2 (by omega)]; decide)]; rfl) | rw [btn_no (by rw [bte_short hz1 hz2 (by omega)]; decide)] | rw [bte_short hz1 hz2 (by omega)] | (rw [btn_no (by rw [bte_long hz1 hz2 (by omega)]; decide), btk_no (by rw [bte_long hz1 hz2 (by omega)]; decide)]; rfl) | rw [btn_no (by rw [bte_long hz1 hz2 (by omega)]; decide)] | rw [bte_long hz1 hz2 (by omega)] | (rw [btn_no (by rw [he2]; assumption), btk_no (by rw [he2]; assumption)]; rfl) | rw [btn_no (by rw [he2]; assumption)] | rw [he2] | rw [btn_ok ((bte_ok hz1 hz2 hzq (by omega)).trans htz) hzq, btk_ok ((bte_ok hz1 hz2 hzq (by omega)).trans htz) hzq] | rw [btn_ok ((bte_ok hz1 hz2 hzq (by omega)).trans htz) hzq] | rw [(bte_ok hz1 hz2 hzq (by omega)).trans htz]) ?_
     refine T_as 2 _ (.blk g2 24 [(.int .i64 (((bte b z) : Nat) : Int))]) rfl (by first | rfl | (rw [btn_no (by rw [bte_arg (mayb_f (by assumption))]; decide), btk_no (by rw [bte_arg (mayb_f (by assumption))]; decide)]; rfl) | rw [btn_no (by rw [bte_arg (mayb_f (by assumption))]; decide)] | rw [bte_arg (mayb_f (by assumption))] | (rw [btn_no (by rw [bte_short hz1 hz2 (by omega)]; decide), btk_no (by rw [bte_short hz1 hz2 (by omega)]; decide)]; rfl) | rw [btn_no (by rw [bte_short hz1 hz2 (by omega)]; decide)] | rw [bte_short hz1 hz2 (by omega)] | (rw [btn_no (by rw [bte_long hz1 hz2 (by omega)]; decide), btk_no (by rw [bte_long hz1 hz2 (by omega)]; decide)]; rfl) | rw [btn_no (by rw [bte_long hz1 hz2 (by omega)]; decide)] | rw [bte_long hz1 hz2 (by omega)] | (rw [btn_no (by rw [he2]; assumption), btk_no (by rw [he2]; assumption)]; rfl) | rw [btn_no (by rw [he2]; assumption)] | rw [he2] | rw [btn_ok ((bte_ok hz1 hz2 hzq (by omega)).trans htz) hzq, btk_ok ((bte_ok hz1 hz2 hzq (by omega)).trans htz) hzq] | rw [btn_ok ((bte_ok hz1 hz2 hzq (by omega)).trans htz) hzq] | rw [(bte_ok hz1 hz2 hzq (by omega)).trans htz]) ?_
     refine T_nilrow 43 4 ?_
     refine T_as 0 _ (.row (.slice none (btn b z) 0) 43 4 (btn b z) (rcs (btk b z))) rfl (by first | rfl | (rw [btn_no (by rw [bte_arg (mayb_f (by assumption))]; decide), btk_no (by rw [bte_arg (mayb_f (by assumption))]; decide)]; rfl) | rw [btn_no (by rw [bte_arg (mayb_f (by assumption))]; decide)] | rw [bte_arg (mayb_f (by assumption))] | (rw [btn_no (by rw [bte_short hz1 hz2 (by omega)]; decide), btk_no (by rw [bte_short hz1 hz2 (by omega)]; decide)]; rfl) | rw [btn_no (by rw [bte_short hz1 hz2 (by omega)]; decide)] | rw [bte_short hz1 hz2 (by omega)] | (rw [btn_no (by rw [bte_long hz1 hz2 (by omega)]; decide), btk_no (by rw [bte_long hz1 hz2 (by omega)]; decide)]; rfl) | rw [btn_no (by rw [bte_long hz1 hz2 (by omega)]; decide)] | rw [bte_long hz1 hz2 (by omega)] | (rw [btn_no (by rw [he2]; assumption), btk_no (by rw [he2]; assumption)]; rfl) | rw [btn_no (by rw [he2]; assumption)] | rw [he2] | rw [btn_ok ((bte_ok hz1 hz2 hzq (by omega)).trans htz) hzq, btk_ok ((bte_ok hz1 hz2 hzq (by omega)).trans htz) hzq] | rw [btn_ok ((bte_ok hz1 hz2 hzq (by omega)).trans htz) hzq] | rw [(bte_ok hz1 hz2 hzq (by omega)).trans htz]) ?_
     exact T_finM 3 rfl (none, 0) (by first | trivial | omega | (simp; done)) (rescc 2 1 rfl rfl rfl rfl rfl Try.underlying27 rfl Try.underlying24 rfl) [0] ⟨by decide, rfl⟩ rfl
set_option maxHeartbeats 4000000 in
theorem rbtake_f (b : List (BitVec 8)) (z : Int) (A : Option Addr) (n : Nat) (c : Nat) (w : World) (hO : HOK [.rd A 1 n c (b.map b8)] w) (hb : b.length = n) (hn : n ≤ 1000000) : Calls Try.prog 22 [(.slice A n c), (.int .i64 z)].toArray w (Ret (T := Option Addr × Nat) [] w (fun ⟨B, e⟩ => True) (fun ⟨B, e⟩ => (.tuple [(.slice B (btn b z) e), (.int .i64 (((bte b z) : Nat) : Int))].toArray)) (fun ⟨B, e⟩ => [.row (.slice B (btn b z) e) 43 4 (btn b z) (rcs (btk b z))])) := by
 have hF : Wid Fence.wide := wid_wide
 refine enter (c := _) Try.func22 rfl [] _ [.rd A 1 n c (b.map b8)] (by rw [Try.ntmps22]; rfl) (own_rds hO rfl) ?_
 rw [Try.ntmps22]
 refine T_re [(0, (.slice A n c)), (1, (.int .i64 z))] (sc rfl (sc rfl sn)) ?_
 refine T_he [0] [.rd A 1 n c (b.map b8)] ⟨by decide, rfl⟩ ?_
 refine Tsr hF rfl ?_
 refine la rfl rfl rfl rfl rfl ?_
 refine la rfl rfl rfl rfl rfl ?_
 refine L_nil ?_
 refine T_seq ?_
 refine T_block ?_
 refine Tsr hF rfl ?_
 refine lm rfl rfl rfl rfl rfl ?_
 refine L_op rfl (op_cn (fun w hw => rmay_f z w (hok_nil w) ) (enters_of Try.func41 kr rfl) rfl rfl rfl rfl rfl (fun t1 q2 => ?_))
 refine lo rfl (pr_un rfl rfl rfl) rfl rfl ?_
 refine la rfl rfl rfl rfl rfl ?_
 refine L_nil ?_
 refine T_cond (!(mayb z)) rfl (fun hc_3 => ?_) (fun hc_3 => ?_)
 ·
  refine Tsr hF rfl ?_
  refine la rfl rfl rfl rfl rfl ?_
  refine la rfl rfl rfl rfl rfl ?_
  refine L_nil ?_
  refine T_ret ?_
  refine T_slot 4 (.slice none 0 0) (.slice none (btn b z) 0) rfl (by first | rfl | (rw [btn_no (by rw [bte_arg (mayb_f (by assumption))]; decide), btk_no (by rw [bte_arg (mayb_f (by assumption))]; decide)]; rfl) | rw [btn_no (by rw [bte_arg (mayb_f (by assumption))]; decide)] | rw [bte_arg (mayb_f (by assumption))] | (rw [btn_no (by rw [bte_short hz1 hz2 (by omega)]; decide), btk_no (by rw [bte_short hz1 hz2 (by omega)]; decide)]; rfl) | rw [btn_no (by rw [bte_short hz1 hz2 (by omega)]; decide)] | rw [bte_short hz1 hz2 (by omega)] | (rw [btn_no (by rw [bte_long hz1 hz2 (by omega)]; decide), btk_no (by rw [bte_long hz1 hz2 (by omega)]; decide)]; rfl) | rw [btn_no (by rw [bte_long hz1 hz2 (by omega)]; decide)] | rw [bte_long hz1 hz2 (by omega)] | (rw [btn_no (by rw [bte_err hz1 hz2 hzq (by omega) (by omega : k < q) hp.2 (by assumption)]; assumption), btk_no (by rw [bte_err hz1 hz2 hzq (by omega) (by omega : k < q) hp.2 (by assumption)]; assumption)]; rfl) | rw [btn_no (by rw [bte_err hz1 hz2 hzq (by omega) (by omega : k < q) hp.2 (by assumption)]; assumption)] | rw [bte_err hz1 hz2 hzq (by omega) (by omega : k < q) hp.2 (by assumption)] | rw [btn_ok ((bte_ok hz1 hz2 hzq (by omega)).trans htz) hzq, btk_ok ((bte_ok hz1 hz2 hzq (by omega)).trans htz) hzq] | rw [btn_ok ((bte_ok hz1 hz2 hzq (by omega)).trans htz) hzq] | rw [(bte_ok hz1 hz2 hzq (by omega)).trans htz]) ?_
  refine T_slot 5 (.int .i64 ((1 : Nat) : Int)) (.int .i64 (((bte b z) : Nat) : Int)) rfl (by first | rfl | (rw [btn_no (by rw [bte_arg (mayb_f (by assumption))]; decide), btk_no (by rw [bte_arg (mayb_f (by assumption))]; decide)]; rfl) | rw [btn_no (by rw [bte_arg (mayb_f (by assumption))]; decide)] | rw [bte_arg (mayb_f (by assumption))] | (rw [btn_no (by rw [bte_short hz1 hz2 (by omega)]; decide), btk_no (by rw [bte_short hz1 hz2 (by omega)]; decide)]; rfl) | rw [btn_no (by rw [bte_short hz1 hz2 (by omega)]; decide)] | rw [bte_short hz1 hz2 (by omega)] | (rw [btn_no (by rw [bte_long hz1 hz2 (by omega)]; decide), btk_no (by rw [bte_long hz1 hz2 (by omega)]; decide)]; rfl) | rw [btn_no (by rw [bte_long hz1 hz2 (by omega)]; decide)] | rw [bte_long hz1 hz2 (by omega)] | (rw [btn_no (by rw [bte_err hz1 hz2 hzq (by omega) (by omega : k < q) hp.2 (by assumption)]; assumption), btk_no (by rw [bte_err hz1 hz2 hzq (by omega) (by omega : k < q) hp.2 (by assumption)]; assumption)]; rfl) | rw [btn_no (by rw [bte_err hz1 hz2 hzq (by omega) (by omega : k < q) hp.2 (by assumption)]; assumption)] | rw [bte_err hz1 hz2 hzq (by omega) (by omega : k < q) hp.2 (by assumption)] | rw [btn_ok ((bte_ok hz1 hz2 hzq (by omega)).trans htz) hzq, btk_ok ((bte_ok hz1 hz2 hzq (by omega)).trans htz) hzq] | rw [btn_ok ((bte_ok hz1 hz2 hzq (by omega)).trans htz) hzq] | rw [(bte_ok hz1 hz2 hzq (by omega)).trans htz]) ?_
  refine T_nilrow 43 4 ?_
  refine T_as 0 _ (.row (.slice none (btn b z) 0) 43 4 (btn b z) (rcs (btk b z))) rfl (by first | rfl | (rw [btn_no (by rw [bte_arg (mayb_f (by assumption))]; decide), btk_no (by rw [bte_arg (mayb_f (by assumption))]; decide)]; rfl) | rw [btn_no (by rw [bte_arg (mayb_f (by assumption))]; decide)] | rw [bte_arg (mayb_f (by assumption))] | (rw [btn_no (by rw [bte_short hz1 hz2 (by omega)]; decide), btk_no (by rw [bte_short hz1 hz2 (by omega)]; decide)]; rfl) | rw [btn_no (by rw [bte_short hz1 hz2 (by omega)]; decide)] | rw [bte_short hz1 hz2 (by omega)] | (rw [btn_no (by rw [bte_long hz1 hz2 (by omega)]; decide), btk_no (by rw [bte_long hz1 hz2 (by omega)]; decide)]; rfl) | rw [btn_no (by rw [bte_long hz1 hz2 (by omega)]; decide)] | rw [bte_long hz1 hz2 (by omega)] | (rw [btn_no (by rw [bte_err hz1 hz2 hzq (by omega) (by omega : k < q) hp.2 (by assumption)]; assumption), btk_no (by rw [bte_err hz1 hz2 hzq (by omega) (by omega : k < q) hp.2 (by assumption)]; assumption)]; rfl) | rw [btn_no (by rw [bte_err hz1 hz2 hzq (by omega) (by omega : k < q) hp.2 (by assumption)]; assumption)] | rw [bte_err hz1 hz2 hzq (by omega) (by omega : k < q) hp.2 (by assumption)] | rw [btn_ok ((bte_ok hz1 hz2 hzq (by omega)).trans htz) hzq, btk_ok ((bte_ok hz1 hz2 hzq (by omega)).trans htz) hzq] | rw [btn_ok ((bte_ok hz1 hz2 hzq (by omega)).trans htz) hzq] | rw [(bte_ok hz1 hz2 hzq (by omega)).trans htz]) ?_
  exact T_fin (none, 0) (by first | trivial | omega | (simp; done)) (res2 rfl rfl rfl) [0] ⟨by decide, rfl⟩ rfl
 ·
  refine Tsr hF rfl ?_
  refine lm rfl rfl rfl rfl rfl ?_
  obtain ⟨hz1, hz2⟩ := mayb_t (z := z) (by assumption)
  refine lo rfl (pr_len_sl Try.underlying23 rfl rfl) rfl rfl ?_
  refine lm rfl rfl rfl rfl rfl ?_
  refine lo rfl (pr_mul (zw_i64 (z := (((32 : Nat) : Int) * z)) sd) rfl rfl rfl) rfl rfl ?_
  refine lo rfl (pr_cmp (bo := .lss) (k := .i64) (a := ((n : Nat) : Int)) (b := (((32 : Nat) : Int) * z)) (c := decide (((n : Nat) : Int) < (((32 : Nat) : Int) * z))) rfl rfl rfl rfl rfl) rfl rfl ?_
  refine la rfl rfl rfl rfl rfl ?_
  refine L_nil ?_
  refine T_cond (decide (((n : Nat) : Int) < (((32 : Nat) : Int) * z))) rfl (fun hc_4 => ?_) (fun hc_4 => ?_)
  ·
   have hc_4 := of_decide_eq_true hc_4
   refine Tsr hF rfl ?_
   refine la rfl rfl rfl rfl rfl ?_
   refine la rfl rfl rfl rfl rfl ?_
   refine L_nil ?_
   refine T_ret ?_
   refine T_slot 4 (.slice none 0 0) (.slice none (btn b z) 0) rfl (by first | rfl | (rw [btn_no (by rw [bte_arg (mayb_f (by assumption))]; decide), btk_no (by rw [bte_arg (mayb_f (by assumption))]; decide)]; rfl) | rw [btn_no (by rw [bte_arg (mayb_f (by assumption))]; decide)] | rw [bte_arg (mayb_f (by assumption))] | (rw [btn_no (by rw [bte_short hz1 hz2 (by omega)]; decide), btk_no (by rw [bte_short hz1 hz2 (by omega)]; decide)]; rfl) | rw [btn_no (by rw [bte_short hz1 hz2 (by omega)]; decide)] | rw [bte_short hz1 hz2 (by omega)] | (rw [btn_no (by rw [bte_long hz1 hz2 (by omega)]; decide), btk_no (by rw [bte_long hz1 hz2 (by omega)]; decide)]; rfl) | rw [btn_no (by rw [bte_long hz1 hz2 (by omega)]; decide)] | rw [bte_long hz1 hz2 (by omega)] | (rw [btn_no (by rw [bte_err hz1 hz2 hzq (by omega) (by omega : k < q) hp.2 (by assumption)]; assumption), btk_no (by rw [bte_err hz1 hz2 hzq (by omega) (by omega : k < q) hp.2 (by assumption)]; assumption)]; rfl) | rw [btn_no (by rw [bte_err hz1 hz2 hzq (by omega) (by omega : k < q) hp.2 (by assumption)]; assumption)] | rw [bte_err hz1 hz2 hzq (by omega) (by omega : k < q) hp.2 (by assumption)] | rw [btn_ok ((bte_ok hz1 hz2 hzq (by omega)).trans htz) hzq, btk_ok ((bte_ok hz1 hz2 hzq (by omega)).trans htz) hzq] | rw [btn_ok ((bte_ok hz1 hz2 hzq (by omega)).trans htz) hzq] | rw [(bte_ok hz1 hz2 hzq (by omega)).trans htz]) ?_
   refine T_slot 5 (.int .i64 ((3 : Nat) : Int)) (.int .i64 (((bte b z) : Nat) : Int)) rfl (by first | rfl | (rw [btn_no (by rw [bte_arg (mayb_f (by assumption))]; decide), btk_no (by rw [bte_arg (mayb_f (by assumption))]; decide)]; rfl) | rw [btn_no (by rw [bte_arg (mayb_f (by assumption))]; decide)] | rw [bte_arg (mayb_f (by assumption))] | (rw [btn_no (by rw [bte_short hz1 hz2 (by omega)]; decide), btk_no (by rw [bte_short hz1 hz2 (by omega)]; decide)]; rfl) | rw [btn_no (by rw [bte_short hz1 hz2 (by omega)]; decide)] | rw [bte_short hz1 hz2 (by omega)] | (rw [btn_no (by rw [bte_long hz1 hz2 (by omega)]; decide), btk_no (by rw [bte_long hz1 hz2 (by omega)]; decide)]; rfl) | rw [btn_no (by rw [bte_long hz1 hz2 (by omega)]; decide)] | rw [bte_long hz1 hz2 (by omega)] | (rw [btn_no (by rw [bte_err hz1 hz2 hzq (by omega) (by omega : k < q) hp.2 (by assumption)]; assumption), btk_no (by rw [bte_err hz1 hz2 hzq (by omega) (by omega : k < q) hp.2 (by assumption)]; assumption)]; rfl) | rw [btn_no (by rw [bte_err hz1 hz2 hzq (by omega) (by omega : k < q) hp.2 (by assumption)]; assumption)] | rw [bte_err hz1 hz2 hzq (by omega) (by omega : k < q) hp.2 (by assumption)] | rw [btn_ok ((bte_ok hz1 hz2 hzq (by omega)).trans htz) hzq, btk_ok ((bte_ok hz1 hz2 hzq (by omega)).trans htz) hzq] | rw [btn_ok ((bte_ok hz1 hz2 hzq (by omega)).trans htz) hzq] | rw [(bte_ok hz1 hz2 hzq (by omega)).trans htz]) ?_
   refine T_nilrow 43 4 ?_
   refine T_as 0 _ (.row (.slice none (btn b z) 0) 43 4 (btn b z) (rcs (btk b z))) rfl (by first | rfl | (rw [btn_no (by rw [bte_arg (mayb_f (by assumption))]; decide), btk_no (by rw [bte_arg (mayb_f (by assumption))]; decide)]; rfl) | rw [btn_no (by rw [bte_arg (mayb_f (by assumption))]; decide)] | rw [bte_arg (mayb_f (by assumption))] | (rw [btn_no (by rw [bte_short hz1 hz2 (by omega)]; decide), btk_no (by rw [bte_short hz1 hz2 (by omega)]; decide)]; rfl) | rw [btn_no (by rw [bte_short hz1 hz2 (by omega)]; decide)] | rw [bte_short hz1 hz2 (by omega)] | (rw [btn_no (by rw [bte_long hz1 hz2 (by omega)]; decide), btk_no (by rw [bte_long hz1 hz2 (by omega)]; decide)]; rfl) | rw [btn_no (by rw [bte_long hz1 hz2 (by omega)]; decide)] | rw [bte_long hz1 hz2 (by omega)] | (rw [btn_no (by rw [bte_err hz1 hz2 hzq (by omega) (by omega : k < q) hp.2 (by assumption)]; assumption), btk_no (by rw [bte_err hz1 hz2 hzq (by omega) (by omega : k < q) hp.2 (by assumption)]; assumption)]; rfl) | rw [btn_no (by rw [bte_err hz1 hz2 hzq (by omega) (by omega : k < q) hp.2 (by assumption)]; assumption)] | rw [bte_err hz1 hz2 hzq (by omega) (by omega : k < q) hp.2 (by assumption)] | rw [btn_ok ((bte_ok hz1 hz2 hzq (by omega)).trans htz) hzq, btk_ok ((bte_ok hz1 hz2 hzq (by omega)).trans htz) hzq] | rw [btn_ok ((bte_ok hz1 hz2 hzq (by omega)).trans htz) hzq] | rw [(bte_ok hz1 hz2 hzq (by omega)).trans htz]) ?_
   exact T_fin (none, 0) (by first | trivial | omega | (simp; done)) (res2 rfl rfl rfl) [0] ⟨by decide, rfl⟩ rfl
  ·
   have hc_4 := of_decide_eq_false hc_4
   refine Tsr hF rfl ?_
   refine lm rfl rfl rfl rfl rfl ?_
   refine lo rfl (pr_len_sl Try.underlying23 rfl rfl) rfl rfl ?_
   refine lm rfl rfl rfl rfl rfl ?_
   refine lo rfl (pr_mul (zw_i64 (z := (((32 : Nat) : Int) * z)) sd) rfl rfl rfl) rfl rfl ?_
   refine lo rfl (pr_cmp (bo := .gtr) (k := .i64) (a := ((n : Nat) : Int)) (b := (((32 : Nat) : Int) * z)) (c := decide ((((32 : Nat) : Int) * z) < ((n : Nat) : Int))) rfl rfl rfl rfl rfl) rfl rfl ?_
   refine la rfl rfl rfl rfl rfl ?_
   refine L_nil ?_
   refine T_cond (decide ((((32 : Nat) : Int) * z) < ((n : Nat) : Int))) rfl (fun hc_5 => ?_) (fun hc_5 => ?_)
   ·
    have hc_5 := of_decide_eq_true hc_5
    refine Tsr hF rfl ?_
    refine la rfl rfl rfl rfl rfl ?_
    refine la rfl rfl rfl rfl rfl ?_
    refine L_nil ?_
    refine T_ret ?_
    refine T_slot 4 (.slice none 0 0) (.slice none (btn b z) 0) rfl (by first | rfl | (rw [btn_no (by rw [bte_arg (mayb_f (by assumption))]; decide), btk_no (by rw [bte_arg (mayb_f (by assumption))]; decide)]; rfl) | rw [btn_no (by rw [bte_arg (mayb_f (by assumption))]; decide)] | rw [bte_arg (mayb_f (by assumption))] | (rw [btn_no (by rw [bte_short hz1 hz2 (by omega)]; decide), btk_no (by rw [bte_short hz1 hz2 (by omega)]; decide)]; rfl) | rw [btn_no (by rw [bte_short hz1 hz2 (by omega)]; decide)] | rw [bte_short hz1 hz2 (by omega)] | (rw [btn_no (by rw [bte_long hz1 hz2 (by omega)]; decide), btk_no (by rw [bte_long hz1 hz2 (by omega)]; decide)]; rfl) | rw [btn_no (by rw [bte_long hz1 hz2 (by omega)]; decide)] | rw [bte_long hz1 hz2 (by omega)] | (rw [btn_no (by rw [bte_err hz1 hz2 hzq (by omega) (by omega : k < q) hp.2 (by assumption)]; assumption), btk_no (by rw [bte_err hz1 hz2 hzq (by omega) (by omega : k < q) hp.2 (by assumption)]; assumption)]; rfl) | rw [btn_no (by rw [bte_err hz1 hz2 hzq (by omega) (by omega : k < q) hp.2 (by assumption)]; assumption)] | rw [bte_err hz1 hz2 hzq (by omega) (by omega : k < q) hp.2 (by assumption)] | rw [btn_ok ((bte_ok hz1 hz2 hzq (by omega)).trans htz) hzq, btk_ok ((bte_ok hz1 hz2 hzq (by omega)).trans htz) hzq] | rw [btn_ok ((bte_ok hz1 hz2 hzq (by omega)).trans htz) hzq] | rw [(bte_ok hz1 hz2 hzq (by omega)).trans htz]) ?_
    refine T_slot 5 (.int .i64 ((4 : Nat) : Int)) (.int .i64 (((bte b z) : Nat) : Int)) rfl (by first | rfl | (rw [btn_no (by rw [bte_arg (mayb_f (by assumption))]; decide), btk_no (by rw [bte_arg (mayb_f (by assumption))]; decide)]; rfl) | rw [btn_no (by rw [bte_arg (mayb_f (by assumption))]; decide)] | rw [bte_arg (mayb_f (by assumption))] | (rw [btn_no (by rw [bte_short hz1 hz2 (by omega)]; decide), btk_no (by rw [bte_short hz1 hz2 (by omega)]; decide)]; rfl) | rw [btn_no (by rw [bte_short hz1 hz2 (by omega)]; decide)] | rw [bte_short hz1 hz2 (by omega)] | (rw [btn_no (by rw [bte_long hz1 hz2 (by omega)]; decide), btk_no (by rw [bte_long hz1 hz2 (by omega)]; decide)]; rfl) | rw [btn_no (by rw [bte_long hz1 hz2 (by omega)]; decide)] | rw [bte_long hz1 hz2 (by omega)] | (rw [btn_no (by rw [bte_err hz1 hz2 hzq (by omega) (by omega : k < q) hp.2 (by assumption)]; assumption), btk_no (by rw [bte_err hz1 hz2 hzq (by omega) (by omega : k < q) hp.2 (by assumption)]; assumption)]; rfl) | rw [btn_no (by rw [bte_err hz1 hz2 hzq (by omega) (by omega : k < q) hp.2 (by assumption)]; assumption)] | rw [bte_err hz1 hz2 hzq (by omega) (by omega : k < q) hp.2 (by assumption)] | rw [btn_ok ((bte_ok hz1 hz2 hzq (by omega)).trans htz) hzq, btk_ok ((bte_ok hz1 hz2 hzq (by omega)).trans htz) hzq] | rw [btn_ok ((bte_ok hz1 hz2 hzq (by omega)).trans htz) hzq] | rw [(bte_ok hz1 hz2 hzq (by omega)).trans htz]) ?_
    refine T_nilrow 43 4 ?_
    refine T_as 0 _ (.row (.slice none (btn b z) 0) 43 4 (btn b z) (rcs (btk b z))) rfl (by first | rfl | (rw [btn_no (by rw [bte_arg (mayb_f (by assumption))]; decide), btk_no (by rw [bte_arg (mayb_f (by assumption))]; decide)]; rfl) | rw [btn_no (by rw [bte_arg (mayb_f (by assumption))]; decide)] | rw [bte_arg (mayb_f (by assumption))] | (rw [btn_no (by rw [bte_short hz1 hz2 (by omega)]; decide), btk_no (by rw [bte_short hz1 hz2 (by omega)]; decide)]; rfl) | rw [btn_no (by rw [bte_short hz1 hz2 (by omega)]; decide)] | rw [bte_short hz1 hz2 (by omega)] | (rw [btn_no (by rw [bte_long hz1 hz2 (by omega)]; decide), btk_no (by rw [bte_long hz1 hz2 (by omega)]; decide)]; rfl) | rw [btn_no (by rw [bte_long hz1 hz2 (by omega)]; decide)] | rw [bte_long hz1 hz2 (by omega)] | (rw [btn_no (by rw [bte_err hz1 hz2 hzq (by omega) (by omega : k < q) hp.2 (by assumption)]; assumption), btk_no (by rw [bte_err hz1 hz2 hzq (by omega) (by omega : k < q) hp.2 (by assumption)]; assumption)]; rfl) | rw [btn_no (by rw [bte_err hz1 hz2 hzq (by omega) (by omega : k < q) hp.2 (by assumption)]; assumption)] | rw [bte_err hz1 hz2 hzq (by omega) (by omega : k < q) hp.2 (by assumption)] | rw [btn_ok ((bte_ok hz1 hz2 hzq (by omega)).trans htz) hzq, btk_ok ((bte_ok hz1 hz2 hzq (by omega)).trans htz) hzq] | rw [btn_ok ((bte_ok hz1 hz2 hzq (by omega)).trans htz) hzq] | rw [(bte_ok hz1 hz2 hzq (by omega)).trans htz]) ?_
    exact T_fin (none, 0) (by first | trivial | omega | (simp; done)) (res2 rfl rfl rfl) [0] ⟨by decide, rfl⟩ rfl
   ·
    have hc_5 := of_decide_eq_false hc_5
    refine T_skip ?_
    refine Tsr hF rfl ?_
    refine la rfl rfl rfl rfl rfl ?_
    obtain ⟨q, hzq⟩ : ∃ q : Nat, z = (q : Int) := ⟨z.toNat, by omega⟩
    have hnq : n = 32 * q := by omega
    refine T_slot 1 (.int .i64 z) (.int .i64 ((q : Nat) : Int)) rfl (by rw [hzq]) ?_
    refine L_nil ?_
    refine T_seq ?_
    refine Tsr hF rfl ?_
    refine la rfl rfl rfl rfl rfl ?_
    refine L_nil ?_
    refine T_block ?_
    refine T_nilrow 43 4 ?_
    refine T_as 0 _ (.row (.slice none 0 0) 43 4 0 (rcs (tks b 0))) rfl (by first | rfl | simp | (congr 1; simp)) ?_
    refine T_loop (T := Nat × Option Addr × Nat) (fun ⟨k, A1, c1⟩ => k ≤ q ∧ tke b k = 0) (fun ⟨k, A1, c1⟩ => [(0, (.slice A n c)), (1, (.int .i64 ((q : Nat) : Int))), (6, (.slice A1 k c1)), (7, (.int .i64 ((k : Nat) : Int)))]) (fun ⟨k, A1, c1⟩ => [.row (.slice A1 k c1) 43 4 k (rcs (tks b k)), .rd A 1 n c (b.map b8)]) (fun ⟨k, A1, c1⟩ => q - k) (0, none, 0) (⟨by omega, rfl⟩) (sc rfl (sc rfl (sc rfl (sc rfl sn)))) [0, 1] ⟨by decide, rfl⟩ ?_
    rintro ⟨k, A1, c1⟩ hp
    have hp : k ≤ q ∧ tke b k = 0 := hp
    have hkl := hp.1
    have hcl := fun hkq : k < q => chk_len hb hnq hkq
    refine T_re [(0, (.slice A n c)), (1, (.int .i64 ((q : Nat) : Int))), (6, (.slice A1 k c1)), (7, (.int .i64 ((k : Nat) : Int)))] (sc rfl (sc rfl (sc rfl (sc rfl sn)))) ?_
    refine T_he [0, 1] [.row (.slice A1 k c1) 43 4 k (rcs (tks b k)), .rd A 1 n c (b.map b8)] ⟨by decide, rfl⟩ ?_
    refine T_seq ?_
    refine Tsr hF rfl ?_
    refine lm rfl rfl rfl rfl rfl ?_
    refine lm rfl rfl rfl rfl rfl ?_
    refine lo rfl (pr_cmp (bo := .lss) (nc_lt (a := k) (b := q)) rfl rfl rfl rfl) rfl rfl ?_
    refine L_nil ?_
    refine T_cond (decide (k < q)) rfl (fun hc_6 => ?_) (fun hc_6 => ?_)
    ·
     have hc_6 := of_decide_eq_true hc_6
     refine T_skip ?_
     refine T_seq ?_
     refine T_block ?_
     refine Tsr hF rfl ?_
     refine lm rfl rfl rfl rfl rfl ?_
     refine lm rfl rfl rfl rfl rfl ?_
     refine lo rfl (pr_mul (nm_i64 (a := 32) (b := k) sd) rfl rfl rfl) rfl rfl ?_
     refine lm rfl rfl rfl rfl rfl ?_
     refine lo rfl (pr_mul (nm_i64 (a := 32) (b := k) sd) rfl rfl rfl) rfl rfl ?_
     refine lo rfl (pr_add (na_i64 (a := 32 * k) (b := 32) sd) rfl rfl rfl) rfl rfl ?_
     refine L_op rfl (op_slice_rd (l := 32 * k) (u := 32 * k + 32) 1 rfl sd sd Try.underlying23 kr rfl rfl ⟨_, rfl⟩ ⟨_, rfl⟩ rfl rfl (fun B7 => ?_))
     refine T_as 0 _ (.rd B7 1 ((32 * k + 32) - (32 * k)) (c - (32 * k)) ((List.take ((32 * k + 32) - (32 * k)) (List.drop (32 * k) b)).map b8)) rfl (by congr 1; simp [List.map_take, List.map_drop] <;> omega) ?_
     have hcl2 := chk_len hb hnq (k := k) (by omega)
     refine T_slot 38 _ (.slice B7 32 (c - (32 * k))) rfl (by congr 1; omega) ?_
     refine T_as 0 _ (.rd B7 1 32 (c - (32 * k)) ((chk b k).map b8)) rfl (by rw [show 32 * k + 32 - 32 * k = 32 from by omega]; rfl) ?_
     refine L_op rfl (op_cn (fun w hw => rrtake_f (chk b k) B7 32 (c - (32 * k)) w (hok_cons ((src_rd 0 rfl) w hw) (hok_nil w)) sd sd) (enters_of Try.func46 kr rfl) rfl rfl rfl rfl rfl (fun t8 q9 => ?_))
     refine lm rfl rfl rfl rfl rfl ?_
     refine lo rfl (pr_ext (vs := [(.agg [(.bool ((rtk (chk b k)).d)), (.int .i64 (i64 (rtk (chk b k)).k)), (.int .i64 (i64 (rtk (chk b k)).v)), (.int .i64 (i64 (rtk (chk b k)).s))].toArray), (.int .i64 (((rte (chk b k)) : Nat) : Int))]) rfl rfl rfl) rfl rfl ?_
     refine lo rfl (pr_ext (vs := [(.agg [(.bool ((rtk (chk b k)).d)), (.int .i64 (i64 (rtk (chk b k)).k)), (.int .i64 (i64 (rtk (chk b k)).v)), (.int .i64 (i64 (rtk (chk b k)).s))].toArray), (.int .i64 (((rte (chk b k)) : Nat) : Int))]) rfl rfl rfl) rfl rfl ?_
     refine L_op rfl (op_alloc (z := .agg [(.bool false), (.int .i64 ((0 : Nat) : Int)), (.int .i64 ((0 : Nat) : Int)), (.int .i64 ((0 : Nat) : Int))].toArray) (zs := [(.bool false), (.int .i64 ((0 : Nat) : Int)), (.int .i64 ((0 : Nat) : Int)), (.int .i64 ((0 : Nat) : Int))]) kr rfl rfl rfl rfl (fun g10 => ?_))
     refine L_op rfl (op_sto (n := 4) (vs := [(.bool ((rtk (chk b k)).d)), (.int .i64 (i64 (rtk (chk b k)).k)), (.int .i64 (i64 (rtk (chk b k)).v)), (.int .i64 (i64 (rtk (chk b k)).s))]) 0 rfl rfl kr (by simp [Value.oneCell']) kr kr rfl rfl rfl rfl ?_)
     refine la rfl rfl rfl rfl rfl ?_
     refine L_nil ?_
     refine T_seq ?_
     refine Tsr hF rfl ?_
     refine lm rfl rfl rfl rfl rfl ?_
     refine lo rfl (pr_cmp (bo := .neq) (nc_ne (a := (rte (chk b k))) (b := 0)) rfl rfl rfl rfl) rfl rfl ?_
     refine L_nil ?_
     refine T_cond ((rte (chk b k)) != 0) rfl (fun hc_11 => ?_) (fun hc_11 => ?_)
     ·
      have hc_11 : ¬ (rte (chk b k)) = 0 := by simpa using hc_11
      refine Tsr hF rfl ?_
      refine lm rfl rfl rfl rfl rfl ?_
      refine la rfl rfl rfl rfl rfl ?_
      refine la rfl rfl rfl rfl rfl ?_
      refine L_nil ?_
      refine T_ret ?_
      refine T_slot 4 (.slice none 0 0) (.slice none (btn b z) 0) rfl (by first | rfl | (rw [btn_no (by rw [bte_arg (mayb_f (by assumption))]; decide), btk_no (by rw [bte_arg (mayb_f (by assumption))]; decide)]; rfl) | rw [btn_no (by rw [bte_arg (mayb_f (by assumption))]; decide)] | rw [bte_arg (mayb_f (by assumption))] | (rw [btn_no (by rw [bte_short hz1 hz2 (by omega)]; decide), btk_no (by rw [bte_short hz1 hz2 (by omega)]; decide)]; rfl) | rw [btn_no (by rw [bte_short hz1 hz2 (by omega)]; decide)] | rw [bte_short hz1 hz2 (by omega)] | (rw [btn_no (by rw [bte_long hz1 hz2 (by omega)]; decide), btk_no (by rw [bte_long hz1 hz2 (by omega)]; decide)]; rfl) | rw [btn_no (by rw [bte_long hz1 hz2 (by omega)]; decide)] | rw [bte_long hz1 hz2 (by omega)] | (rw [btn_no (by rw [bte_err hz1 hz2 hzq (by omega) (by omega : k < q) hp.2 (by assumption)]; assumption), btk_no (by rw [bte_err hz1 hz2 hzq (by omega) (by omega : k < q) hp.2 (by assumption)]; assumption)]; rfl) | rw [btn_no (by rw [bte_err hz1 hz2 hzq (by omega) (by omega : k < q) hp.2 (by assumption)]; assumption)] | rw [bte_err hz1 hz2 hzq (by omega) (by omega : k < q) hp.2 (by assumption)] | rw [btn_ok ((bte_ok hz1 hz2 hzq (by omega)).trans htz) hzq, btk_ok ((bte_ok hz1 hz2 hzq (by omega)).trans htz) hzq] | rw [btn_ok ((bte_ok hz1 hz2 hzq (by omega)).trans htz) hzq] | rw [(bte_ok hz1 hz2 hzq (by omega)).trans htz]) ?_
      refine T_slot 5 (.int .i64 (((rte (chk b k)) : Nat) : Int)) (.int .i64 (((bte b z) : Nat) : Int)) rfl (by first | rfl | (rw [btn_no (by rw [bte_arg (mayb_f (by assumption))]; decide), btk_no (by rw [bte_arg (mayb_f (by assumption))]; decide)]; rfl) | rw [btn_no (by rw [bte_arg (mayb_f (by assumption))]; decide)] | rw [bte_arg (mayb_f (by assumption))] | (rw [btn_no (by rw [bte_short hz1 hz2 (by omega)]; decide), btk_no (by rw [bte_short hz1 hz2 (by omega)]; decide)]; rfl) | rw [btn_no (by rw [bte_short hz1 hz2 (by omega)]; decide)] | rw [bte_short hz1 hz2 (by omega)] | (rw [btn_no (by rw [bte_long hz1 hz2 (by omega)]; decide), btk_no (by rw [bte_long hz1 hz2 (by omega)]; decide)]; rfl) | rw [btn_no (by rw [bte_long hz1 hz2 (by omega)]; decide)] | rw [bte_long hz1 hz2 (by omega)] | (rw [btn_no (by rw [bte_err hz1 hz2 hzq (by omega) (by omega : k < q) hp.2 (by assumption)]; assumption), btk_no (by rw [bte_err hz1 hz2 hzq (by omega) (by omega : k < q) hp.2 (by assumption)]; assumption)]; rfl) | rw [btn_no (by rw [bte_err hz1 hz2 hzq (by omega) (by omega : k < q) hp.2 (by assumption)]; assumption)] | rw [bte_err hz1 hz2 hzq (by omega) (by omega : k < q) hp.2 (by assumption)] | rw [btn_ok ((bte_ok hz1 hz2 hzq (by omega)).trans htz) hzq, btk_ok ((bte_ok hz1 hz2 hzq (by omega)).trans htz) hzq] | rw [btn_ok ((bte_ok hz1 hz2 hzq (by omega)).trans htz) hzq] | rw [(bte_ok hz1 hz2 hzq (by omega)).trans htz]) ?_
      refine T_nilrow 43 4 ?_
      refine T_as 0 _ (.row (.slice none (btn b z) 0) 43 4 (btn b z) (rcs (btk b z))) rfl (by first | rfl | (rw [btn_no (by rw [bte_arg (mayb_f (by assumption))]; decide), btk_no (by rw [bte_arg (mayb_f (by assumption))]; decide)]; rfl) | rw [btn_no (by rw [bte_arg (mayb_f (by assumption))]; decide)] | rw [bte_arg (mayb_f (by assumption))] | (rw [btn_no (by rw [bte_short hz1 hz2 (by omega)]; decide), btk_no (by rw [bte_short hz1 hz2 (by omega)]; decide)]; rfl) | rw [btn_no (by rw [bte_short hz1 hz2 (by omega)]; decide)] | rw [bte_short hz1 hz2 (by omega)] | (rw [btn_no (by rw [bte_long hz1 hz2 (by omega)]; decide), btk_no (by rw [bte_long hz1 hz2 (by omega)]; decide)]; rfl) | rw [btn_no (by rw [bte_long hz1 hz2 (by omega)]; decide)] | rw [bte_long hz1 hz2 (by omega)] | (rw [btn_no (by rw [bte_err hz1 hz2 hzq (by omega) (by omega : k < q) hp.2 (by assumption)]; assumption), btk_no (by rw [bte_err hz1 hz2 hzq (by omega) (by omega : k < q) hp.2 (by assumption)]; assumption)]; rfl) | rw [btn_no (by rw [bte_err hz1 hz2 hzq (by omega) (by omega : k < q) hp.2 (by assumption)]; assumption)] | rw [bte_err hz1 hz2 hzq (by omega) (by omega : k < q) hp.2 (by assumption)] | rw [btn_ok ((bte_ok hz1 hz2 hzq (by omega)).trans htz) hzq, btk_ok ((bte_ok hz1 hz2 hzq (by omega)).trans htz) hzq] | rw [btn_ok ((bte_ok hz1 hz2 hzq (by omega)).trans htz) hzq] | rw [(bte_ok hz1 hz2 hzq (by omega)).trans htz]) ?_
      exact T_fin (none, 0) (by first | trivial | omega | (simp; done)) (res2 rfl rfl rfl) [0] ⟨by decide, rfl⟩ rfl
     ·
      have hc_11 : (rte (chk b k)) = 0 := by simpa using hc_11
      refine T_skip ?_
      refine T_reg hF rfl ?_
      refine lm rfl rfl rfl rfl rfl ?_
      refine lq rfl (ld_agg (ds := [(.bool ((rtk (chk b k)).d)), (.int .i64 (i64 (rtk (chk b k)).k)), (.int .i64 (i64 (rtk (chk b k)).v)), (.int .i64 (i64 (rtk (chk b k)).s))]) 0 rfl agg_all Try.underlying43 rfl kr rfl rfl) rfl rfl ?_
      refine L_op rfl (op_bslice (e := 43) (zs := [(.bool ((rtk (chk b k)).d)), (.int .i64 (i64 (rtk (chk b k)).k)), (.int .i64 (i64 (rtk (chk b k)).v)), (.int .i64 (i64 (rtk (chk b k)).s))]) (qs := [(0, (.agg [(.bool ((rtk (chk b k)).d)), (.int .i64 (i64 (rtk (chk b k)).k)), (.int .i64 (i64 (rtk (chk b k)).v)), (.int .i64 (i64 (rtk (chk b k)).s))].toArray))]) (fun _ => by kernel_rfl) rfl rfl rfl rfl (fun g12 => ?_))
      refine L_op rfl (op_append (z := .agg [(.bool false), (.int .i64 ((0 : Nat) : Int)), (.int .i64 ((0 : Nat) : Int)), (.int .i64 ((0 : Nat) : Int))].toArray) (size := 4) (bytes := 32) 3 rfl Try.underlying27 kr kr (by decide) (src_blk (z := 4) (ds := [(.bool ((rtk (chk b k)).d)), (.int .i64 (i64 (rtk (chk b k)).k)), (.int .i64 (i64 (rtk (chk b k)).v)), (.int .i64 (i64 (rtk (chk b k)).s))]) 0 rfl rfl rfl sd sd) (by simp [Value.oneCell']) sd sd rfl rfl rfl rfl rfl (fun A13 C14 => ?_))
      refine T_as 0 _ (.row (.slice A13 (k + 1) C14) 43 4 (k + 1) (rcs ((tks b k) ++ [(Rc.mk ((rtk (chk b k)).d) ((rtk (chk b k)).k) ((rtk (chk b k)).v) ((rtk (chk b k)).s))]))) rfl (by first | rfl | (congr 1; simp; done) | (simp only [List.map_append]; rfl) | (rw [List.map_append]; rfl) | (rw [rcs_app]; rfl)) ?_
      refine la rfl rfl rfl rfl rfl ?_
      refine L_nil ?_
      refine T_reg hF rfl ?_
      refine lm rfl rfl rfl rfl rfl ?_
      refine lo rfl (pr_add (na_i64 (a := k) (b := 1) sd) rfl rfl rfl) rfl rfl ?_
      refine la rfl rfl rfl rfl rfl ?_
      refine L_nil ?_
      refine T_as 0 _ (.row (.slice A13 (k + 1) C14) 43 4 (k + 1) (rcs (tks b (k + 1)))) rfl (by rfl) ?_
      exact T_again (k + 1, A13, C14) (⟨by omega, tke_on hp.2 (by assumption)⟩) (by dsimp only; omega) (sc rfl (sc rfl (sc rfl (sc rfl sn)))) [0, 4] ⟨by decide, rfl⟩
    ·
     have hc_6 := of_decide_eq_false hc_6
     refine T_exit rfl ?_
     obtain rfl : q = k := by omega
     have htz : tke b q = 0 := hp.2
     refine Tsr hF rfl ?_
     refine lm rfl rfl rfl rfl rfl ?_
     refine la rfl rfl rfl rfl rfl ?_
     refine la rfl rfl rfl rfl rfl ?_
     refine L_nil ?_
     refine T_ret ?_
     refine T_slot 4 (.slice A1 q c1) (.slice A1 (btn b z) c1) rfl (by first | rfl | (rw [btn_no (by rw [bte_arg (mayb_f (by assumption))]; decide), btk_no (by rw [bte_arg (mayb_f (by assumption))]; decide)]; rfl) | rw [btn_no (by rw [bte_arg (mayb_f (by assumption))]; decide)] | rw [bte_arg (mayb_f (by assumption))] | (rw [btn_no (by rw [bte_short hz1 hz2 (by omega)]; decide), btk_no (by rw [bte_short hz1 hz2 (by omega)]; decide)]; rfl) | rw [btn_no (by rw [bte_short hz1 hz2 (by omega)]; decide)] | rw [bte_short hz1 hz2 (by omega)] | (rw [btn_no (by rw [bte_long hz1 hz2 (by omega)]; decide), btk_no (by rw [bte_long hz1 hz2 (by omega)]; decide)]; rfl) | rw [btn_no (by rw [bte_long hz1 hz2 (by omega)]; decide)] | rw [bte_long hz1 hz2 (by omega)] | (rw [btn_no (by rw [bte_err hz1 hz2 hzq (by omega) (by omega : k < q) hp.2 (by assumption)]; assumption), btk_no (by rw [bte_err hz1 hz2 hzq (by omega) (by omega : k < q) hp.2 (by assumption)]; assumption)]; rfl) | rw [btn_no (by rw [bte_err hz1 hz2 hzq (by omega) (by omega : k < q) hp.2 (by assumption)]; assumption)] | rw [bte_err hz1 hz2 hzq (by omega) (by omega : k < q) hp.2 (by assumption)] | rw [btn_ok ((bte_ok hz1 hz2 hzq (by omega)).trans htz) hzq, btk_ok ((bte_ok hz1 hz2 hzq (by omega)).trans htz) hzq] | rw [btn_ok ((bte_ok hz1 hz2 hzq (by omega)).trans htz) hzq] | rw [(bte_ok hz1 hz2 hzq (by omega)).trans htz]) ?_
     refine T_slot 5 (.int .i64 ((0 : Nat) : Int)) (.int .i64 (((bte b z) : Nat) : Int)) rfl (by first | rfl | (rw [btn_no (by rw [bte_arg (mayb_f (by assumption))]; decide), btk_no (by rw [bte_arg (mayb_f (by assumption))]; decide)]; rfl) | rw [btn_no (by rw [bte_arg (mayb_f (by assumption))]; decide)] | rw [bte_arg (mayb_f (by assumption))] | (rw [btn_no (by rw [bte_short hz1 hz2 (by omega)]; decide), btk_no (by rw [bte_short hz1 hz2 (by omega)]; decide)]; rfl) | rw [btn_no (by rw [bte_short hz1 hz2 (by omega)]; decide)] | rw [bte_short hz1 hz2 (by omega)] | (rw [btn_no (by rw [bte_long hz1 hz2 (by omega)]; decide), btk_no (by rw [bte_long hz1 hz2 (by omega)]; decide)]; rfl) | rw [btn_no (by rw [bte_long hz1 hz2 (by omega)]; decide)] | rw [bte_long hz1 hz2 (by omega)] | (rw [btn_no (by rw [bte_err hz1 hz2 hzq (by omega) (by omega : k < q) hp.2 (by assumption)]; assumption), btk_no (by rw [bte_err hz1 hz2 hzq (by omega) (by omega : k < q) hp.2 (by assumption)]; assumption)]; rfl) | rw [btn_no (by rw [bte_err hz1 hz2 hzq (by omega) (by omega : k < q) hp.2 (by assumption)]; assumption)] | rw [bte_err hz1 hz2 hzq (by omega) (by omega : k < q) hp.2 (by assumption)] | rw [btn_ok ((bte_ok hz1 hz2 hzq (by omega)).trans htz) hzq, btk_ok ((bte_ok hz1 hz2 hzq (by omega)).trans htz) hzq] | rw [btn_ok ((bte_ok hz1 hz2 hzq (by omega)).trans htz) hzq] | rw [(bte_ok hz1 hz2 hzq (by omega)).trans htz]) ?_
     refine T_as 0 _ (.row (.slice A1 (btn b z) c1) 43 4 (btn b z) (rcs (btk b z))) rfl (by first | rfl | (rw [btn_no (by rw [bte_arg (mayb_f (by assumption))]; decide), btk_no (by rw [bte_arg (mayb_f (by assumption))]; decide)]; rfl) | rw [btn_no (by rw [bte_arg (mayb_f (by assumption))]; decide)] | rw [bte_arg (mayb_f (by assumption))] | (rw [btn_no (by rw [bte_short hz1 hz2 (by omega)]; decide), btk_no (by rw [bte_short hz1 hz2 (by omega)]; decide)]; rfl) | rw [btn_no (by rw [bte_short hz1 hz2 (by omega)]; decide)] | rw [bte_short hz1 hz2 (by omega)] | (rw [btn_no (by rw [bte_long hz1 hz2 (by omega)]; decide), btk_no (by rw [bte_long hz1 hz2 (by omega)]; decide)]; rfl) | rw [btn_no (by rw [bte_long hz1 hz2 (by omega)]; decide)] | rw [bte_long hz1 hz2 (by omega)] | (rw [btn_no (by rw [bte_err hz1 hz2 hzq (by omega) (by omega : k < q) hp.2 (by assumption)]; assumption), btk_no (by rw [bte_err hz1 hz2 hzq (by omega) (by omega : k < q) hp.2 (by assumption)]; assumption)]; rfl) | rw [btn_no (by rw [bte_err hz1 hz2 hzq (by omega) (by omega : k < q) hp.2 (by assumption)]; assumption)] | rw [bte_err hz1 hz2 hzq (by omega) (by omega : k < q) hp.2 (by assumption)] | rw [btn_ok ((bte_ok hz1 hz2 hzq (by omega)).trans htz) hzq, btk_ok ((bte_ok hz1 hz2 hzq (by omega)).trans htz) hzq] | rw [btn_ok ((bte_ok hz1 hz2 hzq (by omega)).trans htz) hzq] | rw [(bte_ok hz1 hz2 hzq (by omega)).trans htz]) ?_
     exact T_fin (A1, c1) (by first | trivial | omega | (simp; done)) (res2 rfl rfl rfl) [0] ⟨by decide, rfl⟩ rfl
theorem rat_in {xs : List Rc} {n k : Nat} (ys : List Rc) (hx : xs.length = n) (h : k < n) : rat (xs ++ ys) k = rat xs k := by subst hx; unfold rat; simp [List.getD_eq_getElem?_getD, List.getElem?_append_left h]
theorem rat_out {xs : List Rc} {n k q : Nat} (hx : xs.length = n) (h : ¬ k < n) (hq : k < q) : rat (xs ++ List.replicate (q - n) rdead) k = rdead := by
  subst hx; unfold rat
  rw [List.getD_eq_getElem?_getD, List.getElem?_append_right (by omega), List.getElem?_replicate, if_pos (by omega)]; rfl
theorem pk_in {xs : List Rc} {n k q : Nat} (hx : xs.length = n) (h : k < n) (hq : n ≤ q) : pkl ((xs ++ List.replicate (q - n) rdead).take (k + 1)) = pkl ((xs ++ List.replicate (q - n) rdead).take k) ++ rpk (Rc.mk (rat xs k).d (rat xs k).k (rat xs k).v (rat xs k).s) := by
  rw [pkl_take _ k (by simp; omega), rat_in _ hx h]
theorem pk_out {xs : List Rc} {n k q : Nat} (hx : xs.length = n) (h : ¬ k < n) (hq : k < q) (hn : n ≤ q) : pkl ((xs ++ List.replicate (q - n) rdead).take (k + 1)) = pkl ((xs ++ List.replicate (q - n) rdead).take k) ++ rpk (Rc.mk true 0#64 0#64 0#64) := by
  rw [pkl_take _ k (by simp; omega), rat_out hx h hq]; rfl

set_option maxHeartbeats 4000000 in
theorem rbpack_f (xs : List Rc) (z : Int) (A : Option Addr) (n : Nat) (c : Nat) (w : World) (hO : HOK [.rd A 4 n c (rcs xs)] w) (hx : xs.length = n) (hn : n ≤ 1000) : Calls Try.prog 20 [(.slice A n c), (.int .i64 z)].toArray w (Ret (T := Option Addr × Nat) [] w (fun ⟨B, e⟩ => True) (fun ⟨B, e⟩ => (.tuple [(.slice B (bpl n z) e), (.int .i64 (((bpe n z) : Nat) : Int))].toArray)) (fun ⟨B, e⟩ => [.row (.slice B (bpl n z) e) 5 1 (bpl n z) ((bpb xs z).map b8)])) := by
 have hrd := rpk_len (Rc.mk true 0#64 0#64 0#64)
 have hF : Wid Fence.wide := wid_wide
 refine enter (c := _) Try.func20 rfl [] _ [.rd A 4 n c (rcs xs)] (by rw [Try.ntmps20]; rfl) (own_rds hO rfl) ?_
 rw [Try.ntmps20]
 refine T_re [(0, (.slice A n c)), (1, (.int .i64 z))] (sc rfl (sc rfl sn)) ?_
 refine T_he [0] [.rd A 4 n c (rcs xs)] ⟨by decide, rfl⟩ ?_
 refine Tsr hF rfl ?_
 refine la rfl rfl rfl rfl rfl ?_
 refine la rfl rfl rfl rfl rfl ?_
 refine L_nil ?_
 refine T_seq ?_
 refine Tsr hF rfl ?_
 refine lm rfl rfl rfl rfl rfl ?_
 refine L_op rfl (op_cn (fun w hw => rmay_f z w (hok_nil w) ) (enters_of Try.func41 kr rfl) rfl rfl rfl rfl rfl (fun t1 q2 => ?_))
 refine lo rfl (pr_un rfl rfl rfl) rfl rfl ?_
 refine L_nil ?_
 refine T_cond (!(mayb z)) rfl (fun hc_3 => ?_) (fun hc_3 => ?_)
 ·
  refine Tsr hF rfl ?_
  refine la rfl rfl rfl rfl rfl ?_
  refine la rfl rfl rfl rfl rfl ?_
  refine L_nil ?_
  refine T_ret ?_
  refine T_slot 4 (.slice none 0 0) (.slice none (bpl n z) 0) rfl (by first | rfl | (rw [bpl_arg (mayb_f (by assumption)), bpb_arg (mayb_f (by assumption))]; rfl) | (rw [bpl_lim hz1 hz2 (by assumption), bpb_lim hz1 hz2 (by omega)]; rfl) | (rw [bpl_ok hq hz1 hz2 (by assumption), bpb_ok hx hq hz1 hz2 (by assumption), List.take_of_length_le (by simp; omega), show n + (q - n) = q from by omega]) | (rw [bpe_arg (mayb_f (by assumption))]) | (rw [bpl_arg (mayb_f (by assumption))]) | (rw [bpe_lim hz1 hz2 (by assumption)]) | (rw [bpl_lim hz1 hz2 (by assumption)]) | (rw [bpe_ok hz1 hz2 (by assumption)]) | (rw [bpl_ok hq hz1 hz2 (by assumption), show n + (q - n) = q from by omega])) ?_
  refine T_slot 5 (.int .i64 ((1 : Nat) : Int)) (.int .i64 (((bpe n z) : Nat) : Int)) rfl (by first | rfl | (rw [bpl_arg (mayb_f (by assumption)), bpb_arg (mayb_f (by assumption))]; rfl) | (rw [bpl_lim hz1 hz2 (by assumption), bpb_lim hz1 hz2 (by omega)]; rfl) | (rw [bpl_ok hq hz1 hz2 (by assumption), bpb_ok hx hq hz1 hz2 (by assumption), List.take_of_length_le (by simp; omega), show n + (q - n) = q from by omega]) | (rw [bpe_arg (mayb_f (by assumption))]) | (rw [bpl_arg (mayb_f (by assumption))]) | (rw [bpe_lim hz1 hz2 (by assumption)]) | (rw [bpl_lim hz1 hz2 (by assumption)]) | (rw [bpe_ok hz1 hz2 (by assumption)]) | (rw [bpl_ok hq hz1 hz2 (by assumption), show n + (q - n) = q from by omega])) ?_
  refine T_nilrow 5 1 ?_
  refine T_as 0 _ (.row (.slice none (bpl n z) 0) 5 1 (bpl n z) ((bpb xs z).map b8)) rfl (by first | rfl | (rw [bpl_arg (mayb_f (by assumption)), bpb_arg (mayb_f (by assumption))]; rfl) | (rw [bpl_lim hz1 hz2 (by assumption), bpb_lim hz1 hz2 (by omega)]; rfl) | (rw [bpl_ok hq hz1 hz2 (by assumption), bpb_ok hx hq hz1 hz2 (by assumption), List.take_of_length_le (by simp; omega), show n + (q - n) = q from by omega]) | (rw [bpe_arg (mayb_f (by assumption))]) | (rw [bpl_arg (mayb_f (by assumption))]) | (rw [bpe_lim hz1 hz2 (by assumption)]) | (rw [bpl_lim hz1 hz2 (by assumption)]) | (rw [bpe_ok hz1 hz2 (by assumption)]) | (rw [bpl_ok hq hz1 hz2 (by assumption), show n + (q - n) = q from by omega])) ?_
  exact T_fin (none, 0) (by first | trivial | omega | (simp; done)) (res2 rfl rfl rfl) [0] ⟨by decide, rfl⟩ rfl
 ·
  refine T_skip ?_
  refine T_seq ?_
  refine Tsr hF rfl ?_
  refine lm rfl rfl rfl rfl rfl ?_
  obtain ⟨hz1, hz2⟩ := mayb_t (z := z) (by assumption)
  refine lo rfl (pr_len_sl Try.underlying27 rfl rfl) rfl rfl ?_
  refine lm rfl rfl rfl rfl rfl ?_
  refine lo rfl (pr_cmp (bo := .gtr) (k := .i64) (a := ((n : Nat) : Int)) (b := z) (c := decide (z < ((n : Nat) : Int))) rfl rfl rfl rfl rfl) rfl rfl ?_
  refine L_nil ?_
  refine T_cond (decide (z < ((n : Nat) : Int))) rfl (fun hc_4 => ?_) (fun hc_4 => ?_)
  ·
   have hc_4 := of_decide_eq_true hc_4
   refine Tsr hF rfl ?_
   refine la rfl rfl rfl rfl rfl ?_
   refine la rfl rfl rfl rfl rfl ?_
   refine L_nil ?_
   refine T_ret ?_
   refine T_slot 4 (.slice none 0 0) (.slice none (bpl n z) 0) rfl (by first | rfl | (rw [bpl_arg (mayb_f (by assumption)), bpb_arg (mayb_f (by assumption))]; rfl) | (rw [bpl_lim hz1 hz2 (by assumption), bpb_lim hz1 hz2 (by omega)]; rfl) | (rw [bpl_ok hq hz1 hz2 (by assumption), bpb_ok hx hq hz1 hz2 (by assumption), List.take_of_length_le (by simp; omega), show n + (q - n) = q from by omega]) | (rw [bpe_arg (mayb_f (by assumption))]) | (rw [bpl_arg (mayb_f (by assumption))]) | (rw [bpe_lim hz1 hz2 (by assumption)]) | (rw [bpl_lim hz1 hz2 (by assumption)]) | (rw [bpe_ok hz1 hz2 (by assumption)]) | (rw [bpl_ok hq hz1 hz2 (by assumption), show n + (q - n) = q from by omega])) ?_
   refine T_slot 5 (.int .i64 ((5 : Nat) : Int)) (.int .i64 (((bpe n z) : Nat) : Int)) rfl (by first | rfl | (rw [bpl_arg (mayb_f (by assumption)), bpb_arg (mayb_f (by assumption))]; rfl) | (rw [bpl_lim hz1 hz2 (by assumption), bpb_lim hz1 hz2 (by omega)]; rfl) | (rw [bpl_ok hq hz1 hz2 (by assumption), bpb_ok hx hq hz1 hz2 (by assumption), List.take_of_length_le (by simp; omega), show n + (q - n) = q from by omega]) | (rw [bpe_arg (mayb_f (by assumption))]) | (rw [bpl_arg (mayb_f (by assumption))]) | (rw [bpe_lim hz1 hz2 (by assumption)]) | (rw [bpl_lim hz1 hz2 (by assumption)]) | (rw [bpe_ok hz1 hz2 (by assumption)]) | (rw [bpl_ok hq hz1 hz2 (by assumption), show n + (q - n) = q from by omega])) ?_
   refine T_nilrow 5 1 ?_
   refine T_as 0 _ (.row (.slice none (bpl n z) 0) 5 1 (bpl n z) ((bpb xs z).map b8)) rfl (by first | rfl | (rw [bpl_arg (mayb_f (by assumption)), bpb_arg (mayb_f (by assumption))]; rfl) | (rw [bpl_lim hz1 hz2 (by assumption), bpb_lim hz1 hz2 (by omega)]; rfl) | (rw [bpl_ok hq hz1 hz2 (by assumption), bpb_ok hx hq hz1 hz2 (by assumption), List.take_of_length_le (by simp; omega), show n + (q - n) = q from by omega]) | (rw [bpe_arg (mayb_f (by assumption))]) | (rw [bpl_arg (mayb_f (by assumption))]) | (rw [bpe_lim hz1 hz2 (by assumption)]) | (rw [bpl_lim hz1 hz2 (by assumption)]) | (rw [bpe_ok hz1 hz2 (by assumption)]) | (rw [bpl_ok hq hz1 hz2 (by assumption), show n + (q - n) = q from by omega])) ?_
   exact T_fin (none, 0) (by first | trivial | omega | (simp; done)) (res2 rfl rfl rfl) [0] ⟨by decide, rfl⟩ rfl
  ·
   have hc_4 := of_decide_eq_false hc_4
   refine T_skip ?_
   refine Tsr hF rfl ?_
   refine la rfl rfl rfl rfl rfl ?_
   obtain ⟨q, hq⟩ : ∃ q : Nat, z = (q : Int) := ⟨z.toNat, by omega⟩
   have hnq : n ≤ q := by omega
   refine T_slot 1 (.int .i64 z) (.int .i64 ((q : Nat) : Int)) rfl (by rw [hq]) ?_
   refine L_nil ?_
   refine T_seq ?_
   refine Tsr hF rfl ?_
   refine la rfl rfl rfl rfl rfl ?_
   refine L_nil ?_
   refine T_block ?_
   refine T_slot 6 (.slice none 0 0) (.slice none (32 * 0) 0) rfl (by first | rfl | (congr 2; omega) | (simp; omega)) ?_
   refine T_nilrow 5 1 ?_
   refine T_as 0 _ (.row (.slice none (32 * 0) 0) 5 1 (32 * 0) ((pkl ((xs ++ List.replicate (q - n) rdead).take 0)).map b8)) rfl (by first | rfl | simp | (congr 1; simp)) ?_
   refine T_loop (T := Nat × Option Addr × Nat) (fun ⟨k, A1, c1⟩ => k ≤ q) (fun ⟨k, A1, c1⟩ => [(0, (.slice A n c)), (1, (.int .i64 ((q : Nat) : Int))), (6, (.slice A1 (32 * k) c1)), (7, (.int .i64 ((k : Nat) : Int)))]) (fun ⟨k, A1, c1⟩ => [.row (.slice A1 (32 * k) c1) 5 1 (32 * k) ((pkl ((xs ++ List.replicate (q - n) rdead).take k)).map b8), .rd A 4 n c (rcs xs)]) (fun ⟨k, A1, c1⟩ => q - k) (0, none, 0) (by first | trivial | ((try dsimp only); first | omega | (refine ⟨?_, ?_⟩ <;> omega) | (refine ⟨?_, ?_, ?_⟩ <;> omega) | (simp; done) | (simp; omega))) (sc rfl (sc rfl (sc rfl (sc rfl sn)))) [0, 1] ⟨by decide, rfl⟩ ?_
   rintro ⟨k, A1, c1⟩ hp
   have hp : k ≤ q := hp
   have hrk : (rpk (Rc.mk (rat xs k).d (rat xs k).k (rat xs k).v (rat xs k).s)).length = 32 := rpk_len _
   refine T_re [(0, (.slice A n c)), (1, (.int .i64 ((q : Nat) : Int))), (6, (.slice A1 (32 * k) c1)), (7, (.int .i64 ((k : Nat) : Int)))] (sc rfl (sc rfl (sc rfl (sc rfl sn)))) ?_
   refine T_he [0, 1] [.row (.slice A1 (32 * k) c1) 5 1 (32 * k) ((pkl ((xs ++ List.replicate (q - n) rdead).take k)).map b8), .rd A 4 n c (rcs xs)] ⟨by decide, rfl⟩ ?_
   refine T_seq ?_
   refine Tsr hF rfl ?_
   refine lm rfl rfl rfl rfl rfl ?_
   refine lm rfl rfl rfl rfl rfl ?_
   refine lo rfl (pr_cmp (bo := .lss) (nc_lt (a := k) (b := q)) rfl rfl rfl rfl) rfl rfl ?_
   refine L_nil ?_
   refine T_cond (decide (k < q)) rfl (fun hc_5 => ?_) (fun hc_5 => ?_)
   ·
    have hc_5 := of_decide_eq_true hc_5
    refine T_skip ?_
    refine T_seq ?_
    refine T_block ?_
    refine Tsr hF rfl ?_
    refine L_op rfl (op_cn (fun w hw => rdead_f  w (hok_nil w) ) (enters_of Try.func42 kr rfl) rfl rfl rfl rfl rfl (fun t6 q7 => ?_))
    refine L_op rfl (op_alloc (z := .agg [(.bool false), (.int .i64 ((0 : Nat) : Int)), (.int .i64 ((0 : Nat) : Int)), (.int .i64 ((0 : Nat) : Int))].toArray) (zs := [(.bool false), (.int .i64 ((0 : Nat) : Int)), (.int .i64 ((0 : Nat) : Int)), (.int .i64 ((0 : Nat) : Int))]) kr rfl rfl rfl rfl (fun g8 => ?_))
    refine L_op rfl (op_sto (n := 4) (vs := [(.bool true), (.int .i64 ((0 : Nat) : Int)), (.int .i64 ((0 : Nat) : Int)), (.int .i64 ((0 : Nat) : Int))]) 0 rfl rfl kr (by simp [Value.oneCell']) kr kr rfl rfl rfl rfl ?_)
    refine L_nil ?_
    refine T_seq ?_
    refine Tsr hF rfl ?_
    refine lm rfl rfl rfl rfl rfl ?_
    refine lm rfl rfl rfl rfl rfl ?_
    refine lo rfl (pr_len_sl Try.underlying27 rfl rfl) rfl rfl ?_
    refine lo rfl (pr_cmp (bo := .lss) (nc_lt (a := k) (b := n)) rfl rfl rfl rfl) rfl rfl ?_
    refine L_nil ?_
    refine T_cond (decide (k < n)) rfl (fun hc_9 => ?_) (fun hc_9 => ?_)
    ·
     have hc_9 := of_decide_eq_true hc_9
     refine T_reg hF rfl ?_
     refine lm rfl rfl rfl rfl rfl ?_
     refine lm rfl rfl rfl rfl rfl ?_
     refine lo rfl (pr_ixs (j := k) (src_none (src_rd 2 rfl)) sd Try.underlying27 (z := 4) kr rfl rfl rfl) rfl rfl ?_
     refine lq rfl (ld_rc (j := k) (src_rd 2 rfl) sd Try.underlying43 rfl kr rfl rfl) rfl rfl ?_
     refine L_op rfl (op_sto (n := 4) (vs := [(.bool ((rat xs k).d)), (.int .i64 (i64 (rat xs k).k)), (.int .i64 (i64 (rat xs k).v)), (.int .i64 (i64 (rat xs k).s))]) 0 rfl rfl kr (by simp [Value.oneCell']) kr kr rfl rfl rfl rfl ?_)
     refine L_nil ?_
     refine Tsr hF rfl ?_
     refine lq rfl (ld_agg (ds := [(.bool ((rat xs k).d)), (.int .i64 (i64 (rat xs k).k)), (.int .i64 (i64 (rat xs k).v)), (.int .i64 (i64 (rat xs k).s))]) 0 rfl agg_all Try.underlying43 rfl kr rfl rfl) rfl rfl ?_
     refine L_op rfl (op_cn (fun w hw => rrpack_f ((rat xs k).d) ((rat xs k).k) ((rat xs k).v) ((rat xs k).s) w (hok_nil w) ) (enters_of Try.func43 kr rfl) rfl rfl rfl rfl rfl (fun t10 q11 => ?_))
     refine L_op rfl (op_alloc (z := .agg ((List.replicate 32 0#8).map b8).toArray) (zs := ((List.replicate 32 0#8).map b8)) kr rfl rfl rfl rfl (fun g12 => ?_))
     refine L_op rfl (op_sto (n := 32) (vs := ((rpk (Rc.mk ((rat xs k).d) ((rat xs k).k) ((rat xs k).v) ((rat xs k).s))).map b8)) 0 rfl rfl kr (all8_one _) kr sd rfl rfl rfl rfl ?_)
     refine L_nil ?_
     refine T_reg hF rfl ?_
     refine lm rfl rfl rfl rfl rfl ?_
     refine lo rfl (pr_sla (l := 0) (u := 32) (m := 0) sd sd sd rfl Try.underlying50 (z := 1) kr rfl rfl rfl rfl) rfl rfl ?_
     refine L_op rfl (op_append (z := (b8 (0#8))) (size := 1) (bytes := 1) 2 rfl Try.underlying23 kr kr (by decide) (src_full (z := 1) 0 rfl sd sd sd) (all8_one _) sd sd rfl rfl rfl rfl rfl (fun A13 C14 => ?_))
     refine T_as 0 _ (.row (.slice A13 (32 * k + 32) C14) 5 1 (32 * k + 32) (((pkl ((xs ++ List.replicate (q - n) rdead).take k)) ++ (rpk (Rc.mk ((rat xs k).d) ((rat xs k).k) ((rat xs k).v) ((rat xs k).s)))).map b8)) rfl (by first | rfl | (congr 1; simp; done) | (simp only [List.map_append]; rfl) | (rw [List.map_append]; rfl)) ?_
     refine la rfl rfl rfl rfl rfl ?_
     refine L_nil ?_
     refine T_reg hF rfl ?_
     refine lm rfl rfl rfl rfl rfl ?_
     refine lo rfl (pr_add (na_i64 (a := k) (b := 1) sd) rfl rfl rfl) rfl rfl ?_
     refine la rfl rfl rfl rfl rfl ?_
     refine L_nil ?_
     refine T_slot 6 (.slice A13 (32 * k + 32) C14) (.slice A13 (32 * (k + 1)) C14) rfl (by first | rfl | (congr 2; omega) | (simp; omega)) ?_
     refine T_as 0 _ (.row (.slice A13 (32 * (k + 1)) C14) 5 1 (32 * (k + 1)) ((pkl ((xs ++ List.replicate (q - n) rdead).take (k + 1))).map b8)) rfl (by first | (rw [pk_in hx (by assumption) hnq]; rfl) | (rw [pk_out hx (by assumption) (by assumption) hnq]; rfl)) ?_
     exact T_again (k + 1, A13, C14) (by first | trivial | ((try dsimp only); first | omega | (refine ⟨?_, ?_⟩ <;> omega) | (refine ⟨?_, ?_, ?_⟩ <;> omega) | (simp; done) | (simp; omega))) (by first | trivial | ((try dsimp only); first | omega | (refine ⟨?_, ?_⟩ <;> omega) | (refine ⟨?_, ?_, ?_⟩ <;> omega) | (simp; done) | (simp; omega))) (sc rfl (sc rfl (sc rfl (sc rfl sn)))) [0, 3] ⟨by decide, rfl⟩
    ·
     have hc_9 := of_decide_eq_false hc_9
     refine T_skip ?_
     refine Tsr hF rfl ?_
     refine lq rfl (ld_agg (ds := [(.bool true), (.int .i64 ((0 : Nat) : Int)), (.int .i64 ((0 : Nat) : Int)), (.int .i64 ((0 : Nat) : Int))]) 0 rfl agg_all Try.underlying43 rfl kr rfl rfl) rfl rfl ?_
     refine L_op rfl (op_cn (fun w hw => rrpack_f true (0#64) (0#64) (0#64) w (hok_nil w) ) (enters_of Try.func43 kr rfl) rfl rfl rfl rfl rfl (fun t15 q16 => ?_))
     refine L_op rfl (op_alloc (z := .agg ((List.replicate 32 0#8).map b8).toArray) (zs := ((List.replicate 32 0#8).map b8)) kr rfl rfl rfl rfl (fun g17 => ?_))
     refine L_op rfl (op_sto (n := 32) (vs := ((rpk (Rc.mk true (0#64) (0#64) (0#64))).map b8)) 0 rfl rfl kr (all8_one _) kr sd rfl rfl rfl rfl ?_)
     refine L_nil ?_
     refine T_reg hF rfl ?_
     refine lm rfl rfl rfl rfl rfl ?_
     refine lo rfl (pr_sla (l := 0) (u := 32) (m := 0) sd sd sd rfl Try.underlying50 (z := 1) kr rfl rfl rfl rfl) rfl rfl ?_
     refine L_op rfl (op_append (z := (b8 (0#8))) (size := 1) (bytes := 1) 2 rfl Try.underlying23 kr kr (by decide) (src_full (z := 1) 0 rfl sd sd sd) (all8_one _) sd sd rfl rfl rfl rfl rfl (fun A18 C19 => ?_))
     refine T_as 0 _ (.row (.slice A18 (32 * k + 32) C19) 5 1 (32 * k + 32) (((pkl ((xs ++ List.replicate (q - n) rdead).take k)) ++ (rpk (Rc.mk true (0#64) (0#64) (0#64)))).map b8)) rfl (by first | rfl | (congr 1; simp; done) | (simp only [List.map_append]; rfl) | (rw [List.map_append]; rfl)) ?_
     refine la rfl rfl rfl rfl rfl ?_
     refine L_nil ?_
     refine T_reg hF rfl ?_
     refine lm rfl rfl rfl rfl rfl ?_
     refine lo rfl (pr_add (na_i64 (a := k) (b := 1) sd) rfl rfl rfl) rfl rfl ?_
     refine la rfl rfl rfl rfl rfl ?_
     refine L_nil ?_
     refine T_slot 6 (.slice A18 (32 * k + 32) C19) (.slice A18 (32 * (k + 1)) C19) rfl (by first | rfl | (congr 2; omega) | (simp; omega)) ?_
     refine T_as 0 _ (.row (.slice A18 (32 * (k + 1)) C19) 5 1 (32 * (k + 1)) ((pkl ((xs ++ List.replicate (q - n) rdead).take (k + 1))).map b8)) rfl (by first | (rw [pk_in hx (by assumption) hnq]; rfl) | (rw [pk_out hx (by assumption) (by assumption) hnq]; rfl)) ?_
     exact T_again (k + 1, A18, C19) (by first | trivial | ((try dsimp only); first | omega | (refine ⟨?_, ?_⟩ <;> omega) | (refine ⟨?_, ?_, ?_⟩ <;> omega) | (simp; done) | (simp; omega))) (by first | trivial | ((try dsimp only); first | omega | (refine ⟨?_, ?_⟩ <;> omega) | (refine ⟨?_, ?_, ?_⟩ <;> omega) | (simp; done) | (simp; omega))) (sc rfl (sc rfl (sc rfl (sc rfl sn)))) [0, 3] ⟨by decide, rfl⟩
   ·
    have hc_5 := of_decide_eq_false hc_5
    refine T_exit rfl ?_
    obtain rfl : q = k := by omega
    refine Tsr hF rfl ?_
    refine lm rfl rfl rfl rfl rfl ?_
    refine la rfl rfl rfl rfl rfl ?_
    refine la rfl rfl rfl rfl rfl ?_
    refine L_nil ?_
    refine T_ret ?_
    refine T_slot 4 (.slice A1 (32 * q) c1) (.slice A1 (bpl n z) c1) rfl (by first | rfl | (rw [bpl_arg (mayb_f (by assumption)), bpb_arg (mayb_f (by assumption))]; rfl) | (rw [bpl_lim hz1 hz2 (by assumption), bpb_lim hz1 hz2 (by omega)]; rfl) | (rw [bpl_ok hq hz1 hz2 (by assumption), bpb_ok hx hq hz1 hz2 (by assumption), List.take_of_length_le (by simp; omega), show n + (q - n) = q from by omega]) | (rw [bpe_arg (mayb_f (by assumption))]) | (rw [bpl_arg (mayb_f (by assumption))]) | (rw [bpe_lim hz1 hz2 (by assumption)]) | (rw [bpl_lim hz1 hz2 (by assumption)]) | (rw [bpe_ok hz1 hz2 (by assumption)]) | (rw [bpl_ok hq hz1 hz2 (by assumption), show n + (q - n) = q from by omega])) ?_
    refine T_slot 5 (.int .i64 ((0 : Nat) : Int)) (.int .i64 (((bpe n z) : Nat) : Int)) rfl (by first | rfl | (rw [bpl_arg (mayb_f (by assumption)), bpb_arg (mayb_f (by assumption))]; rfl) | (rw [bpl_lim hz1 hz2 (by assumption), bpb_lim hz1 hz2 (by omega)]; rfl) | (rw [bpl_ok hq hz1 hz2 (by assumption), bpb_ok hx hq hz1 hz2 (by assumption), List.take_of_length_le (by simp; omega), show n + (q - n) = q from by omega]) | (rw [bpe_arg (mayb_f (by assumption))]) | (rw [bpl_arg (mayb_f (by assumption))]) | (rw [bpe_lim hz1 hz2 (by assumption)]) | (rw [bpl_lim hz1 hz2 (by assumption)]) | (rw [bpe_ok hz1 hz2 (by assumption)]) | (rw [bpl_ok hq hz1 hz2 (by assumption), show n + (q - n) = q from by omega])) ?_
    refine T_as 0 _ (.row (.slice A1 (bpl n z) c1) 5 1 (bpl n z) ((bpb xs z).map b8)) rfl (by first | rfl | (rw [bpl_arg (mayb_f (by assumption)), bpb_arg (mayb_f (by assumption))]; rfl) | (rw [bpl_lim hz1 hz2 (by assumption), bpb_lim hz1 hz2 (by omega)]; rfl) | (rw [bpl_ok hq hz1 hz2 (by assumption), bpb_ok hx hq hz1 hz2 (by assumption), List.take_of_length_le (by simp; omega), show n + (q - n) = q from by omega]) | (rw [bpe_arg (mayb_f (by assumption))]) | (rw [bpl_arg (mayb_f (by assumption))]) | (rw [bpe_lim hz1 hz2 (by assumption)]) | (rw [bpl_lim hz1 hz2 (by assumption)]) | (rw [bpe_ok hz1 hz2 (by assumption)]) | (rw [bpl_ok hq hz1 hz2 (by assumption), show n + (q - n) = q from by omega])) ?_
    exact T_fin (A1, c1) (by first | trivial | omega | (simp; done)) (res2 rfl rfl rfl) [0] ⟨by decide, rfl⟩ rfl
end Go.Proofs.Ytlplpmkdebemnaa
namespace Go.Proofs.Ytlplpmkdebemnaa
set_option linter.unusedVariables false
set_option linter.unusedSimpArgs false
open Bv
/-- The constants. -/
def shaK : List (BitVec 32) := [
  0x428a2f98#32, 0x71374491#32, 0xb5c0fbcf#32, 0xe9b5dba5#32, 0x3956c25b#32, 0x59f111f1#32, 0x923f82a4#32, 0xab1c5ed5#32,
  0xd807aa98#32, 0x12835b01#32, 0x243185be#32, 0x550c7dc3#32, 0x72be5d74#32, 0x80deb1fe#32, 0x9bdc06a7#32, 0xc19bf174#32,
  0xe49b69c1#32, 0xefbe4786#32, 0x0fc19dc6#32, 0x240ca1cc#32, 0x2de92c6f#32, 0x4a7484aa#32, 0x5cb0a9dc#32, 0x76f988da#32,
  0x983e5152#32, 0xa831c66d#32, 0xb00327c8#32, 0xbf597fc7#32, 0xc6e00bf3#32, 0xd5a79147#32, 0x06ca6351#32, 0x14292967#32,
  0x27b70a85#32, 0x2e1b2138#32, 0x4d2c6dfc#32, 0x53380d13#32, 0x650a7354#32, 0x766a0abb#32, 0x81c2c92e#32, 0x92722c85#32,
  0xa2bfe8a1#32, 0xa81a664b#32, 0xc24b8b70#32, 0xc76c51a3#32, 0xd192e819#32, 0xd6990624#32, 0xf40e3585#32, 0x106aa070#32,
  0x19a4c116#32, 0x1e376c08#32, 0x2748774c#32, 0x34b0bcb5#32, 0x391c0cb3#32, 0x4ed8aa4a#32, 0x5b9cca4f#32, 0x682e6ff3#32,
  0x748f82ee#32, 0x78a5636f#32, 0x84c87814#32, 0x8cc70208#32, 0x90befffa#32, 0xa4506ceb#32, 0xbef9a3f7#32, 0xc67178f2#32]
theorem shaK_len : shaK.length = 64 := rfl
def rol32 (x : BitVec 32) (s : Nat) : BitVec 32 := x <<< s ||| x >>> (32 - s)
def ror32 (x : BitVec 32) (n : Nat) : BitVec 32 := x >>> n ||| x <<< (32 - n)
theorem rol_ror (x : BitVec 32) (n : Nat) (h0 : 0 < n) (h1 : n < 32) : rol32 x (32 - n) = ror32 x n := by
  unfold rol32 ror32
  rw [show 32 - (32 - n) = n by omega, BitVec.or_comm]
theorem rol32_and (x : BitVec 32) (s : Nat) (hs : s < 32) : x <<< (BitVec.ofNat 64 s).toNat ||| x >>> (32#64 - BitVec.ofNat 64 s).toNat = rol32 x s := by
  have h1 : (BitVec.ofNat 64 s).toNat = s := by rw [BitVec.toNat_ofNat]; omega
  have h2 : (32#64 - BitVec.ofNat 64 s).toNat = 32 - s := by rw [BitVec.toNat_sub, h1]; simp; omega
  rw [h1, h2]; rfl
/-- What stands behind a message of n bytes. -/
def padb (n : Nat) : List (BitVec 8) := 0x80#8 :: (List.replicate ((119 - n % 64) % 64) 0#8 ++ highb (BitVec.ofNat 64 n * 8#64) 8 8)
def plen (n : Nat) : Nat := 1 + (119 - n % 64) % 64 + 8
theorem padb_len (n : Nat) : (padb n).length = plen n := by unfold padb plen; simp [highb_len]; omega
theorem plen_le (n : Nat) : plen n ≤ 72 := by unfold plen; omega
theorem plen_mod (n : Nat) : (n + plen n) % 64 = 0 := by unfold plen; omega
/-- A list, and zeros behind it up to n. -/
def fil {w : Nat} (xs : List (BitVec w)) (n : Nat) : List (BitVec w) := xs ++ List.replicate (n - xs.length) 0
theorem fil_len {w : Nat} (xs : List (BitVec w)) (n : Nat) (h : xs.length ≤ n) : (fil xs n).length = n := by unfold fil; simp; omega
theorem ath_fil {w : Nat} (xs : List (BitVec w)) (n j : Nat) (h : j < xs.length) : ath (fil xs n) j = ath xs j := ath_app_l _ _ _ h
theorem fil_set {w : Nat} (xs : List (BitVec w)) (n : Nat) (v : BitVec w) (h : xs.length < n) : (fil xs n).set xs.length v = fil (xs ++ [v]) n := by
  unfold fil
  rw [List.set_append_right _ _ (Nat.le_refl _), Nat.sub_self]
  rw [show n - xs.length = (n - (xs ++ [v]).length) + 1 by simp; omega, List.replicate_succ, List.set_cons_zero]
  simp
def sig0 (x : BitVec 32) : BitVec 32 := ror32 x 7 ^^^ ror32 x 18 ^^^ x >>> 3
def sig1 (x : BitVec 32) : BitVec 32 := ror32 x 17 ^^^ ror32 x 19 ^^^ x >>> 10
/-- A word of a block's schedule, out of those ahead of it. -/
def schn (b : List (BitVec 8)) (ws : List (BitVec 32)) (k : Nat) : BitVec 32 :=
  if k < 16 then (high (b.drop (4 * k)) 4).setWidth 32 else ath ws (k - 16) + sig0 (ath ws (k - 15)) + ath ws (k - 7) + sig1 (ath ws (k - 2))
def schw (b : List (BitVec 8)) : Nat → List (BitVec 32)
  | 0 => []
  | k + 1 => schw b k ++ [schn b (schw b k) k]
theorem schw_len (b : List (BitVec 8)) : ∀ k, (schw b k).length = k
  | 0 => rfl
  | k + 1 => by rw [schw, List.length_append, schw_len b k]; rfl
theorem fschw_len (b : List (BitVec 8)) (k : Nat) (h : k ≤ 64) : (fil (schw b k) 64).length = 64 := fil_len _ _ (by rw [schw_len]; exact h)
theorem schw_lo (b : List (BitVec 8)) (k : Nat) (h : k < 16) : (fil (schw b k) 64).set k ((high (b.drop (4 * k)) 4).setWidth 32) = fil (schw b (k + 1)) 64 := by
  have := fil_set (schw b k) 64 (schn b (schw b k) k) (by rw [schw_len]; omega)
  rw [schw_len] at this
  rw [schw, ← this, schn, if_pos h]
theorem schw_hi (b : List (BitVec 8)) (k : Nat) (h : 16 ≤ k) (h2 : k < 64) (v : BitVec 32) (hv : v = ath (fil (schw b k) 64) (k - 16) + sig0 (ath (fil (schw b k) 64) (k - 15)) + ath (fil (schw b k) 64) (k - 7) + sig1 (ath (fil (schw b k) 64) (k - 2))) : (fil (schw b k) 64).set k v = fil (schw b (k + 1)) 64 := by
  have := fil_set (schw b k) 64 (schn b (schw b k) k) (by rw [schw_len]; omega)
  rw [schw_len] at this
  rw [schw, ← this, schn, if_neg (by omega), hv]
  rw [ath_fil _ _ _ (by rw [schw_len]; omega), ath_fil _ _ _ (by rw [schw_len]; omega), ath_fil _ _ _ (by rw [schw_len]; omega), ath_fil _ _ _ (by rw [schw_len]; omega)]
theorem fil_zero (b : List (BitVec 8)) : (List.replicate 64 0#32) = fil (schw b 0) 64 := rfl
/-- A round. -/
def rnd (a : List (BitVec 32)) (k w : BitVec 32) : List (BitVec 32) :=
  [ath a 7 + (ror32 (ath a 4) 6 ^^^ ror32 (ath a 4) 11 ^^^ ror32 (ath a 4) 25) + (ath a 4 &&& ath a 5 ^^^ ~~~ath a 4 &&& ath a 6) + k + w +
    ((ror32 (ath a 0) 2 ^^^ ror32 (ath a 0) 13 ^^^ ror32 (ath a 0) 22) + (ath a 0 &&& ath a 1 ^^^ ath a 0 &&& ath a 2 ^^^ ath a 1 &&& ath a 2)),
   ath a 0, ath a 1, ath a 2,
   ath a 3 + (ath a 7 + (ror32 (ath a 4) 6 ^^^ ror32 (ath a 4) 11 ^^^ ror32 (ath a 4) 25) + (ath a 4 &&& ath a 5 ^^^ ~~~ath a 4 &&& ath a 6) + k + w),
   ath a 4, ath a 5, ath a 6]
def rounds (s ws : List (BitVec 32)) : Nat → List (BitVec 32)
  | 0 => s
  | k + 1 => rnd (rounds s ws k) (ath shaK k) (ath ws k)
theorem rounds_len (s ws : List (BitVec 32)) (h : s.length = 8) : ∀ k, (rounds s ws k).length = 8
  | 0 => h
  | _ + 1 => rfl
def addt (s a : List (BitVec 32)) : Nat → List (BitVec 32)
  | 0 => s
  | k + 1 => (addt s a k).set k (ath (addt s a k) k + ath a k)
theorem addt_len (s a : List (BitVec 32)) : ∀ k, (addt s a k).length = s.length
  | 0 => rfl
  | k + 1 => by rw [addt, List.length_set, addt_len s a k]
/-- A state behind a block. -/
def mixb (s : List (BitVec 32)) (b : List (BitVec 8)) : List (BitVec 32) := addt s (rounds s (schw b 64) 64) 8
theorem rounds_succ (s ws : List (BitVec 32)) (k : Nat) : rounds s ws (k + 1) = rnd (rounds s ws k) (ath shaK k) (ath ws k) := rfl
theorem rounds_zero (s ws : List (BitVec 32)) : rounds s ws 0 = s := rfl
theorem addt_succ (s a : List (BitVec 32)) (k : Nat) : addt s a (k + 1) = (addt s a k).set k (ath (addt s a k) k + ath a k) := rfl
theorem addt_zero (s a : List (BitVec 32)) : addt s a 0 = s := rfl
theorem mixb_def (s : List (BitVec 32)) (b : List (BitVec 8)) : mixb s b = addt s (rounds s (schw b 64) 64) 8 := rfl
theorem fil_all (b : List (BitVec 8)) : fil (schw b 64) 64 = schw b 64 := by unfold fil; rw [schw_len]; simp
theorem sig0_def (x : BitVec 32) : ror32 x 7 ^^^ ror32 x 18 ^^^ x >>> 3 = sig0 x := rfl
theorem sig1_def (x : BitVec 32) : ror32 x 17 ^^^ ror32 x 19 ^^^ x >>> 10 = sig1 x := rfl
theorem mixb_len (s : List (BitVec 32)) (b : List (BitVec 8)) : (mixb s b).length = s.length := addt_len _ _ 8
def shaH : List (BitVec 32) := [0x6a09e667#32, 0xbb67ae85#32, 0x3c6ef372#32, 0xa54ff53a#32, 0x510e527f#32, 0x9b05688c#32, 0x1f83d9ab#32, 0x5be0cd19#32]
/-- The state behind k blocks. -/
def hst (m : List (BitVec 8)) : Nat → List (BitVec 32)
  | 0 => shaH
  | k + 1 => mixb (hst m k) ((m.drop (64 * k)).take 64)
theorem hst_len (m : List (BitVec 8)) : ∀ k, (hst m k).length = 8
  | 0 => rfl
  | k + 1 => by rw [hst, mixb_len, hst_len m k]
theorem hst_zero (m : List (BitVec 8)) : hst m 0 = shaH := rfl
theorem hst_succ (m : List (BitVec 8)) (k : Nat) : hst m (k + 1) = mixb (hst m k) ((m.drop (64 * k)).take 64) := rfl
def shaout (s : List (BitVec 32)) : Nat → List (BitVec 8)
  | 0 => []
  | k + 1 => shaout s k ++ highb ((ath s k).setWidth 64) 4 4
theorem shaout_len (s : List (BitVec 32)) : ∀ k, (shaout s k).length = 4 * k
  | 0 => rfl
  | k + 1 => by rw [shaout, List.length_append, shaout_len s k, highb_len]; omega
theorem shaout_zero (s : List (BitVec 32)) : shaout s 0 = [] := rfl
theorem shaout_succ (s : List (BitVec 32)) (k : Nat) : shaout s (k + 1) = shaout s k ++ highb ((ath s k).setWidth 64) 4 4 := rfl
def shamsg (b : List (BitVec 8)) : List (BitVec 8) := b ++ padb b.length
theorem shamsg_len (b : List (BitVec 8)) : (shamsg b).length = b.length + plen b.length := by unfold shamsg; rw [List.length_append, padb_len]
theorem shamsg_def (b : List (BitVec 8)) : b ++ padb b.length = shamsg b := rfl
/-- SHA-256. -/
def shasum (b : List (BitVec 8)) : List (BitVec 8) := shaout (hst (shamsg b) ((b.length + plen b.length + 64 - 1) / 64)) 8
theorem shasum_def (b : List (BitVec 8)) : shasum b = shaout (hst (shamsg b) ((b.length + plen b.length + 64 - 1) / 64)) 8 := rfl
theorem shasum_len (b : List (BitVec 8)) : (shasum b).length = 32 := shaout_len _ 8
theorem shaH_len : shaH.length = 8 := rfl
theorem shablk (b : List (BitVec 8)) (k : Nat) (hk : k < (b.length + plen b.length + 64 - 1) / 64) : min 64 (b.length + plen b.length - 64 * k) = 64 ∧ (List.take 64 (List.drop (64 * k) (shamsg b))).length = 64 := by
  have h1 := plen_mod b.length
  have h2 := shamsg_len b
  constructor
  · omega
  · rw [List.length_take, List.length_drop, h2]; omega
attribute [irreducible] hst shaout shasum shamsg shaH plen padb
attribute [irreducible] schw rounds addt mixb shaK
end Go.Proofs.Ytlplpmkdebemnaa
