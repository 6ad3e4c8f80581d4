/- Numbers as eight bytes each, and back; letters packed and taken, by facts. No conditions but lengths. -/
import Derived.Test.YtlplpmkdebemnaaGHlp
import Derived.Test.YtlplpmkdebemnaaFwZ
import Derived.Test.YtlplpmkdebemnaaProg
import Derived.Test.YtlplpmkdebemnaaFwU
namespace Go.Proofs.Ytlplpmkdebemnaa
set_option linter.unusedVariables false
set_option linter.unusedSimpArgs false
set_option linter.unnecessarySimpa false
set_option maxRecDepth 100000
open Go.RowKit Bv Fw

/-- Numbers, eight bytes each, the lowest first. -/
def eights : List (BitVec 64) → List (BitVec 8)
  | [] => []
  | x :: xs => lowb x 8 ++ eights xs
theorem eights_len : ∀ xs, (eights xs).length = 8 * xs.length
  | [] => rfl
  | x :: xs => by rw [eights, List.length_append, lowb_len, eights_len xs, List.length_cons]; omega
theorem eights_app (xs ys : List (BitVec 64)) : eights (xs ++ ys) = eights xs ++ eights ys := by
  induction xs with
  | nil => rfl
  | cons x xs ih => rw [List.cons_append, eights, eights, ih, List.append_assoc]
theorem eights_take (xs : List (BitVec 64)) (k : Nat) (h : k < xs.length) : eights (xs.take (k + 1)) = eights (xs.take k) ++ lowb (ath xs k) 8 := by
  rw [List.take_succ_eq_append_getElem h, eights_app, ath_get xs k h]
  simp [eights]
/-- The numbers that bytes are. -/
def wds (b : List (BitVec 8)) : Nat → List (BitVec 64)
  | 0 => []
  | k + 1 => wds b k ++ [low (List.take 8 (List.drop (8 * k) b)) 8]
theorem wds_len (b : List (BitVec 8)) : ∀ k, (wds b k).length = k
  | 0 => rfl
  | k + 1 => by rw [wds, List.length_append, wds_len b k]; rfl
theorem num8 (b : List (BitVec 8)) : ((((((((0#64 <<< 8 ||| (ath b 7).setWidth 64) <<< 8 ||| (ath b 6).setWidth 64) <<< 8 ||| (ath b 5).setWidth 64) <<< 8 ||| (ath b 4).setWidth 64) <<< 8 ||| (ath b 3).setWidth 64) <<< 8 ||| (ath b 2).setWidth 64) <<< 8 ||| (ath b 1).setWidth 64) <<< 8 ||| (ath b 0).setWidth 64) = low b 8 := by
  simp only [low]
  generalize (ath b 0).setWidth 64 = x0
  generalize (ath b 1).setWidth 64 = x1
  generalize (ath b 2).setWidth 64 = x2
  generalize (ath b 3).setWidth 64 = x3
  generalize (ath b 4).setWidth 64 = x4
  generalize (ath b 5).setWidth 64 = x5
  generalize (ath b 6).setWidth 64 = x6
  generalize (ath b 7).setWidth 64 = x7
  simp only [BitVec.shiftLeft_or_distrib, ← BitVec.shiftLeft_add, BitVec.zero_shiftLeft, BitVec.zero_or, Nat.reduceAdd, Nat.reduceMul, BitVec.shiftLeft_zero]
  generalize x1 <<< 8 = y1
  generalize x2 <<< 16 = y2
  generalize x3 <<< 24 = y3
  generalize x4 <<< 32 = y4
  generalize x5 <<< 40 = y5
  generalize x6 <<< 48 = y6
  generalize x7 <<< 56 = y7
  clear b
  ac_rfl

set_option maxHeartbeats 4000000 in
theorem vals64_seq (xs : List (BitVec 64)) (A : Option Addr) (n : Nat) (c : Nat) (g1 : Nat) (hx : xs.length = n) (hn : n ≤ 1000000) : SeqC (Θ := Unit) Try.prog 74 [(.pointer (some ⟨g1, 0, none⟩))] [.rd (some ⟨g1, 0, none⟩) 1 1 1 [(.slice A n c)], .rd A 1 n c (xs.map b64)] n (fun k _ => [(b64 (ath xs k))]) (fun k _ => []) := by
 have hF : Wid Fence.wide := wid_wide
 refine enter_seq (c := _) Try.func74 rfl (by rw [Try.ntmps74]; rfl) rfl ?_
 intro l J Jx W O R hsJ hsX hy hend
 rw [Try.ntmps74]
 refine T_re [(0, (.func (.yield l) #[] #[])), (1, (.pointer (some ⟨g1, 0, none⟩)))] (sc rfl (sc rfl sn)) ?_
 refine T_he [0, 1, 2] [.inv W.heap.size O R (J 0 O R), .rd (some ⟨g1, 0, none⟩) 1 1 1 [(.slice A n c)], .rd A 1 n c (xs.map b64)] ⟨by decide, rfl⟩ ?_
 refine Tsr hF rfl ?_
 refine lq rfl (ld_rdb (src_rd 1 rfl) rfl Try.underlying69 rfl rfl rfl) rfl rfl ?_
 refine lo rfl (pr_len_sl Try.underlying69 rfl rfl) rfl rfl ?_
 refine lm rfl rfl rfl rfl rfl ?_
 refine L_nil ?_
 refine T_block ?_
 refine T_loop (T := Nat × List Nat × List Nat) (fun ⟨k, O, R⟩ => k ≤ n) (fun ⟨k, O, R⟩ => [(0, (.func (.yield l) #[] #[])), (5, (.slice A n c)), (6, (.int .i64 ((n : Nat) : Int))), (7, (.int .i64 ((k : Nat) : Int)))]) (fun ⟨k, O, R⟩ => [.inv W.heap.size O R (J k O R), .rd (some ⟨g1, 0, none⟩) 1 1 1 [(.slice A n c)], .rd A 1 n c (xs.map b64)]) (fun ⟨k, O, R⟩ => n - k) (0, O, R) (by first | trivial | ((try dsimp only); first | omega | (refine ⟨?_, ?_⟩ <;> omega) | (refine ⟨?_, ?_, ?_⟩ <;> omega) | (simp; done) | (simp; omega))) (sc rfl (sc rfl (sc rfl (sc rfl sn)))) [0, 1, 2] ⟨by decide, rfl⟩ ?_
 rintro ⟨k, O, R⟩ hp
 have hp : k ≤ n := hp
 refine T_re [(0, (.func (.yield l) #[] #[])), (5, (.slice A n c)), (6, (.int .i64 ((n : Nat) : Int))), (7, (.int .i64 ((k : Nat) : Int)))] (sc rfl (sc rfl (sc rfl (sc rfl sn)))) ?_
 refine T_he [0, 1, 2] [.inv W.heap.size O R (J k O R), .rd (some ⟨g1, 0, none⟩) 1 1 1 [(.slice A n c)], .rd A 1 n c (xs.map b64)] ⟨by decide, rfl⟩ ?_
 refine Tsr hF rfl ?_
 refine lo rfl (pr_cmp (bo := .lss) (nc_lt (a := k) (b := n)) rfl rfl rfl rfl) rfl rfl ?_
 refine L_nil ?_
 refine T_seq ?_
 refine T_cond (decide (k < n)) rfl (fun hc_1 => ?_) (fun hc_1 => ?_)
 ·
  have hc_1 := of_decide_eq_true hc_1
  refine T_skip ?_
  refine T_seq ?_
  refine T_block ?_
  refine Tsr hF rfl ?_
  refine lo rfl (pr_ixs1 (j := k) (src_none (src_rd 2 rfl)) sd Try.underlying69 kr rfl rfl rfl) rfl rfl ?_
  refine lq rfl (ld_src (m := k) (src_rd 2 rfl) (get64 sd) Try.underlying30 rfl rfl rfl) rfl rfl ?_
  refine la rfl rfl rfl rfl rfl ?_
  refine L_nil ?_
  refine T_seq ?_
  refine T_regI ?_
  refine LI_opP hF rfl rfl (op_pr (pr_move rfl rfl) rfl rfl ?_)
  refine LI_opP hF rfl rfl (op_pr (pr_move rfl rfl) rfl rfl ?_)
  refine LI_op rfl (op_yield (k := k) () hy sd hsJ hsX 0 rfl [] rfl rfl rfl rfl rfl rfl rfl rfl rfl (fun _ => trivial) (fun O2 R3 => ?_) (fun O4 R5 => ?_))
  ·
   refine LI_opP hF rfl rfl (op_pr (pr_un (v := .bool false) rfl rfl rfl) rfl rfl ?_)
   refine LI_nil ?_
   refine T_cond_f rfl ?_
   refine T_skip ?_
   refine T_reg hF rfl ?_
   refine lo rfl (pr_add (na_i64 (a := k) (b := 1) sd) rfl rfl rfl) rfl rfl ?_
   refine lm rfl rfl rfl rfl rfl ?_
   refine L_nil ?_
   exact T_again (k + 1, O2, R3) (by first | trivial | ((try dsimp only); first | omega | (refine ⟨?_, ?_⟩ <;> omega) | (refine ⟨?_, ?_, ?_⟩ <;> omega) | (simp; done) | (simp; omega))) (by first | trivial | ((try dsimp only); first | omega | (refine ⟨?_, ?_⟩ <;> omega) | (refine ⟨?_, ?_, ?_⟩ <;> omega) | (simp; done) | (simp; omega))) (sc rfl (sc rfl (sc rfl (sc rfl sn)))) [0, 1, 2] ⟨by decide, rfl⟩
  ·
   refine LI_opP hF rfl rfl (op_pr (pr_un (v := .bool true) rfl rfl rfl) rfl rfl ?_)
   refine LI_nil ?_
   refine T_cond_t rfl ?_
   refine T_ret ?_
   exact T_finX rfl rfl 0 rfl
 ·
  have hc_1 := of_decide_eq_false hc_1
  refine T_exit rfl ?_
  obtain rfl : k = n := by omega
  exact T_finJ rfl rfl 0 rfl
set_option maxHeartbeats 4000000 in
theorem vals64_f (A : Option Addr) (n : Nat) (c : Nat) (w : World) (hO : HOK [] w)  : Calls Try.prog 62 [(.slice A n c)].toArray w (Ret (T := Nat) [] w (fun g1 => True) (fun g1 => (.func (.func 74) #[] [(.pointer (some ⟨g1, 0, none⟩))].toArray)) (fun g1 => [.old (some ⟨g1, 0, none⟩) 1 1 1 [(.slice A n c)]])) := by
 have hF : Wid Fence.wide := wid_wide
 refine enter (c := _) Try.func62 rfl [] _ [] (by rw [Try.ntmps62]; rfl) (own_rds hO rfl) ?_
 rw [Try.ntmps62]
 refine T_re [(0, (.slice A n c))] (sc rfl sn) ?_
 refine T_he [] [] ⟨by decide, rfl⟩ ?_
 refine Tsr hF rfl ?_
 refine L_op rfl (op_box (zs := [(.slice A n c)]) rfl rfl rfl rfl rfl (fun g1 => ?_))
 refine la rfl rfl rfl rfl rfl ?_
 refine L_nil ?_
 refine Tsr hF rfl ?_
 refine lo rfl (pr_mkfn (us := []) (vs := [(.pointer (some ⟨g1, 0, none⟩))]) rfl rfl rfl) rfl rfl ?_
 refine la rfl rfl rfl rfl rfl ?_
 refine L_nil ?_
 refine T_ret ?_
 refine T_oldb 0 (zs := [(.slice A n c)]) 0 1 1 1 rfl rfl rfl sd sd ?_
 exact T_fin g1 (by first | trivial | omega | (simp; done)) (res1 rfl rfl) [0] ⟨by decide, rfl⟩ rfl
set_option maxHeartbeats 4000000 in
theorem lbytes_f (xs : List (BitVec 64)) (A : Option Addr) (n : Nat) (c : Nat) (w : World) (hO : HOK [.rd A 1 n c (xs.map b64)] w) (hx : xs.length = n) (hn : n ≤ 100) : Calls Try.prog 39 [(.slice A n c)].toArray w (Ret (T := Option Addr × Nat) [] w (fun ⟨B, d⟩ => True) (fun ⟨B, d⟩ => (.slice B (8 * n) d)) (fun ⟨B, d⟩ => [.row (.slice B (8 * n) d) 5 1 (8 * n) ((eights xs).map b8)])) := by
 have hF : Wid Fence.wide := wid_wide
 refine enter_m (c := _) Try.func39 rfl [] _ [.rd A 1 n c (xs.map b64)] (by rw [Try.ntmps39]; rfl) (own_rds hO rfl) ?_
 rw [Try.ntmps39]
 refine T_re [(0, (.slice A n c))] (sc rfl sn) ?_
 refine T_he [0] [.rd A 1 n c (xs.map b64)] ⟨by decide, rfl⟩ ?_
 refine Tsr hF rfl ?_
 refine la rfl rfl rfl rfl rfl ?_
 refine L_nil ?_
 refine Tsr hF rfl ?_
 refine L_op rfl (op_alloc (z := (.slice none 0 0)) (zs := [(.slice none 0 0)]) kr rfl rfl rfl rfl (fun g1 => ?_))
 refine L_nil ?_
 refine T_seq ?_
 refine Tsr hF rfl ?_
 refine lm rfl rfl rfl rfl rfl ?_
 refine L_op rfl (op_cn (fun w hw => vals64_f A n c w (hok_nil w) ) (enters_of Try.func62 kr rfl) rfl rfl rfl rfl rfl (fun t2 q3 => ?_))
 obtain ⟨g1_4, eg1_4⟩ : ∃ x, x = t2 := ⟨_, rfl⟩
 subst eg1_4
 refine L_nil ?_
 refine T_block ?_
 refine T_tord 0 rfl ?_
 refine T_nilrow 5 1 ?_
 refine T_as 0 _ (.row (.slice none (8 * 0) 0) 5 1 (8 * 0) ((eights (xs.take 0)).map b8)) rfl (by first | rfl | simp | (congr 1; simp)) ?_
 refine T_as 2 _ (.blk g1 23 [(.slice none (8 * 0) 0)]) rfl (by first | rfl | simp | (congr 1; simp)) ?_
 refine T_range (Θ := Unit) (T := Option Addr × Nat) (Tx := Unit) (cap := [(.pointer (some ⟨g1_4, 0, none⟩))]) (ps := [7]) (vals64_seq xs A n c g1_4 sd sd) rfl (enters_of Try.func74 kr rfl) (fun k ⟨A1, c1⟩ => k ≤ n) (fun k ⟨A1, c1⟩ => [.row (.slice A1 (8 * k) c1) 5 1 (8 * k) ((eights (xs.take k)).map b8), .blk g1 23 [(.slice A1 (8 * k) c1)], .rd A 1 n c (xs.map b64)]) (fun _ => False) (fun _ => []) 0 (none, 0) (by omega) [1, 0, 3] ⟨by decide, rfl⟩ [2, 3] rfl rfl (fun _ _ => rfl) (fun _ => rfl) (fun _ _ => rfl) (fun _ _ => rfl) rfl (fun _ => trivial) ?_ ?_ ?_
 ·
  intro C2 w2 lo2 rs2 l D m k t th rc hrec hk hp
  obtain ⟨A1, c1⟩ := t
  have hp : k ≤ n := hp
  have hk : k < n := hk
  have hF : Wid (Fence.wide.inRound l) := wid_round l
  refine T_re [(3, (.pointer (some ⟨g1, 0, none⟩))), (7, (b64 (ath xs k)))] (sc rfl (sc rfl sn)) ?_
  refine T_he [0, 1, 2, 3, 4] [.obj l (.loop rc), .obj D (.deferred (some [])), .row (.slice A1 (8 * k) c1) 5 1 (8 * k) ((eights (xs.take k)).map b8), .blk g1 23 [(.slice A1 (8 * k) c1)], .rd A 1 n c (xs.map b64)] ⟨by decide, rfl⟩ ?_
  refine T_reg hF rfl ?_
  refine la rfl rfl rfl rfl rfl ?_
  refine L_nil ?_
  refine T_begun 0 rfl hrec ?_
  refine T_block ?_
  refine T_reg hF rfl ?_
  refine lq rfl (ld_blk 3 rfl rfl Try.underlying23 rfl rfl rfl) rfl rfl ?_
  refine lm rfl rfl rfl rfl rfl ?_
  refine L_op rfl (op_c1 2 rfl (fun w hw => putLow_f (eights (xs.take k)) (ath xs k) 8 A1 (8 * k) c1 w (hw _ (List.mem_of_getElem? (i := 2) rfl)) sd sd) (enters_of Try.func60 kr rfl) rfl rfl rfl rfl rfl (fun t5 q6 => ?_))
  obtain ⟨B7, d8⟩ := t5
  refine L_op rfl (op_store (vs := [(.slice B7 ((8 * k) + 8) d8)]) (cs' := [(.slice B7 ((8 * k) + 8) d8)]) 3 rfl rfl kr (one_one rfl) (by first | decide | simp | exact Nat.le_refl _) rfl rfl rfl rfl rfl ?_)
  refine L_nil ?_
  refine T_as 1 _ (.row (.slice B7 (8 * (k + 1)) d8) 5 1 (8 * (k + 1)) ((eights (xs.take (k + 1))).map b8)) rfl (by rw [eights_take _ _ (by omega)]; rfl) ?_
  refine T_as 1 _ (.blk g1 23 [(.slice B7 (8 * (k + 1)) d8)]) rfl (by congr 1) ?_
  exact T_on (B7, d8) (by omega) [2, 3, 1, 0, 4] ⟨by decide, rfl⟩
 ·
  intro D t hp
  obtain ⟨A1, c1⟩ := t
  have hp : n ≤ n := hp
  refine T_re [(3, (.pointer (some ⟨g1, 0, none⟩)))] (sc rfl sn) ?_
  refine T_he [0, 1, 2, 3] [.obj D (.deferred (some [])), .row (.slice A1 (8 * n) c1) 5 1 (8 * n) ((eights (xs.take n)).map b8), .blk g1 23 [(.slice A1 (8 * n) c1)], .rd A 1 n c (xs.map b64)] ⟨by decide, rfl⟩ ?_
  refine Tsr hF rfl ?_
  refine lq rfl (ld_blk 2 rfl rfl Try.underlying23 rfl rfl rfl) rfl rfl ?_
  refine la rfl rfl rfl rfl rfl ?_
  refine L_nil ?_
  refine T_ret ?_
  refine T_as 1 _ (.row (.slice A1 (8 * n) c1) 5 1 (8 * n) ((eights xs).map b8)) rfl (by rw [List.take_of_length_le (by omega)]) ?_
  exact T_finM 1 rfl (A1, c1) (by first | trivial | omega | (simp; done)) (res1 rfl rfl) [0] ⟨by decide, rfl⟩ rfl
 ·
  exact fun D t hq => hq.elim
set_option maxHeartbeats 4000000 in
theorem words_f (b : List (BitVec 8)) (q : Nat) (A : Option Addr) (n : Nat) (c : Nat) (w : World) (hO : HOK [.rd A 1 n c (b.map b8)] w) (hb : b.length = n) (hn : n = 8 * q) (hm : q ≤ 100) : Calls Try.prog 37 [(.slice A n c)].toArray w (Ret (T := Option Addr × Nat) [] w (fun ⟨B, d⟩ => True) (fun ⟨B, d⟩ => (.slice B q d)) (fun ⟨B, d⟩ => [.row (.slice B q d) 30 1 q ((wds b q).map b64)])) := by
 have hF : Wid Fence.wide := wid_wide
 refine enter_m (c := _) Try.func37 rfl [] _ [.rd A 1 n c (b.map b8)] (by rw [Try.ntmps37]; rfl) (own_rds hO rfl) ?_
 rw [Try.ntmps37]
 refine T_re [(0, (.slice A n c))] (sc rfl sn) ?_
 refine T_he [0] [.rd A 1 n c (b.map b8)] ⟨by decide, rfl⟩ ?_
 refine Tsr hF rfl ?_
 refine la rfl rfl rfl rfl rfl ?_
 refine L_nil ?_
 refine Tsr hF rfl ?_
 refine L_op rfl (op_alloc (z := (.slice none 0 0)) (zs := [(.slice none 0 0)]) kr rfl rfl rfl rfl (fun g1 => ?_))
 refine L_nil ?_
 refine T_seq ?_
 refine Tsr hF rfl ?_
 refine lm rfl rfl rfl rfl rfl ?_
 refine L_op rfl (op_cn (fun w hw => chunk_f A n c 8 w (hok_nil w) sd) (enters_of Try.func44 kr rfl) rfl rfl rfl rfl rfl (fun t2 q3 => ?_))
 obtain ⟨g1_4, g2_5⟩ := t2
 refine L_nil ?_
 refine T_block ?_
 refine T_tord 0 rfl ?_
 refine T_tord 1 rfl ?_
 refine T_nilrow 30 1 ?_
 refine T_as 0 _ (.row (.slice none 0 0) 30 1 0 ((wds b 0).map b64)) rfl (by first | rfl | simp | (congr 1; simp)) ?_
 refine T_range (Θ := Option Addr) (T := Option Addr × Nat) (Tx := Unit) (cap := [(.pointer (some ⟨g1_4, 0, none⟩)), (.pointer (some ⟨g2_5, 0, none⟩))]) (ps := [7]) (chunk_seq b 8 A n c g1_4 g2_5 sd sd sd sd) rfl (enters_of Try.func65 kr rfl) (fun k ⟨A1, c1⟩ => k ≤ q) (fun k ⟨A1, c1⟩ => [.row (.slice A1 k c1) 30 1 k ((wds b k).map b64), .rd (some ⟨g1_4, 0, none⟩) 1 1 1 [(.slice A n c)], .blk g1 69 [(.slice A1 k c1)], .rd A 1 n c (b.map b8)]) (fun _ => False) (fun _ => []) 0 (none, 0) (by omega) [0, 2, 3, 4] ⟨by decide, rfl⟩ [2, 1, 4] rfl rfl (fun _ _ => rfl) (fun _ => rfl) (fun _ _ => rfl) (fun _ _ => rfl) rfl (fun _ => trivial) ?_ ?_ ?_
 ·
  intro C2 w2 lo2 rs2 l D m k t th rc hrec hk hp
  obtain ⟨A1, c1⟩ := t
  obtain ⟨B, rfl⟩ : ∃ x, x = th := ⟨_, rfl⟩
  have hp : k ≤ q := hp
  have hk : k < (n + 8 - 1) / 8 := hk
  have hF : Wid (Fence.wide.inRound l) := wid_round l
  refine T_re [(3, (.pointer (some ⟨g1, 0, none⟩))), (7, (.slice B (min 8 (n - 8 * k)) (min 8 (n - 8 * k))))] (sc rfl (sc rfl sn)) ?_
  refine T_he [0, 1, 2, 3, 4, 5, 6] [.rd B 1 (min 8 (n - 8 * k)) (min 8 (n - 8 * k)) ((List.take (min 8 (n - 8 * k)) (List.drop (8 * k) b)).map b8), .obj l (.loop rc), .obj D (.deferred (some [])), .row (.slice A1 k c1) 30 1 k ((wds b k).map b64), .rd (some ⟨g1_4, 0, none⟩) 1 1 1 [(.slice A n c)], .blk g1 69 [(.slice A1 k c1)], .rd A 1 n c (b.map b8)] ⟨by decide, rfl⟩ ?_
  refine T_reg hF rfl ?_
  refine la rfl rfl rfl rfl rfl ?_
  refine L_nil ?_
  refine T_begun 1 rfl hrec ?_
  refine T_block ?_
  refine T_regD [.obj l (.loop { rc with state := .busy }), .rd B 1 (min 8 (n - 8 * k)) (min 8 (n - 8 * k)) ((List.take (min 8 (n - 8 * k)) (List.drop (8 * k) b)).map b8), .obj D (.deferred (some [])), .row (.slice A1 k c1) 30 1 k ((wds b k).map b64), .rd (some ⟨g1_4, 0, none⟩) 1 1 1 [(.slice A n c)], .blk g1 69 [(.slice A1 k c1)], .rd A 1 n c (b.map b8)] 4 6 #[false, false, false, false, false, false] hF kr kr ?_
  refine D_pure (i := 1) [0, 1, 2, 3, 4, 5, 6] rfl kr rfl (pr_move rfl rfl) (.inr rfl) rfl rfl ?_
  refine D_take (i := 0) [0, 1, 2, 3, 4, 5, 6] rfl kr rfl (ld_blk 5 rfl rfl Try.underlying69 rfl rfl rfl) rfl rfl rfl ?_
  refine D_one 2 _ rfl kr rfl (op_cn (fun w hw => low_f (List.take (min 8 (n - 8 * k)) (List.drop (8 * k) b)) 8 B (min 8 (n - 8 * k)) (min 8 (n - 8 * k)) w (hok_cons ((src_rd 1 rfl) w hw) (hok_nil w)) sd sd sd) (enters_of Try.func61 kr rfl) rfl rfl rfl rfl rfl (fun t6 q7 => ?_))
  refine D_on [0, 1, 2, 3, 4, 5, 6] rfl ?_
  refine D_one 3 _ rfl kr rfl (op_bslice (e := 30) (zs := [(b64 (low (List.take (min 8 (n - 8 * k)) (List.drop (8 * k) b)) 8))]) (qs := [(0, (b64 (low (List.take (min 8 (n - 8 * k)) (List.drop (8 * k) b)) 8)))]) (fun _ => by kernel_rfl) rfl rfl rfl rfl (fun g8 => ?_))
  refine D_on [1, 2, 3, 4, 5, 6, 7] rfl ?_
  refine D_one 4 _ rfl kr rfl (op_append (z := (b64 (0#64))) (size := 1) (bytes := 8) 4 rfl Try.underlying69 kr kr (by decide) (src_full (z := 1) 0 rfl rfl sd sd) (by simp [Value.oneCell']) sd sd rfl rfl rfl rfl rfl (fun A9 C10 => ?_))
  refine T_as 0 _ (.row (.slice A9 (k + 1) C10) 30 1 (k + 1) (((wds b k) ++ [(low (List.take (min 8 (n - 8 * k)) (List.drop (8 * k) b)) 8)]).map b64)) rfl (by first | rfl | (congr 1; simp; done) | (simp only [List.map_append]; rfl) | (rw [List.map_append]; rfl)) ?_
  refine D_past kr ?_
  refine D_one 5 _ rfl kr rfl (op_store (vs := [(.slice A9 (k + 1) C10)]) (cs' := [(.slice A9 (k + 1) C10)]) 6 rfl rfl kr (one_one rfl) (by first | decide | simp | exact Nat.le_refl _) rfl rfl rfl rfl rfl ?_)
  refine D_past kr ?_
  refine D_done kr ?_
  refine T_as 1 _ (.row (.slice A9 (k + 1) C10) 30 1 (k + 1) ((wds b (k + 1)).map b64)) rfl (by rw [wds, show min 8 (n - 8 * k) = 8 from by omega]) ?_
  exact T_on (A9, C10) (by dsimp only; omega) [3, 5, 0, 6, 1, 7] ⟨by decide, rfl⟩
 ·
  intro D t hp
  obtain ⟨A1, c1⟩ := t
  have hp : ((n + 8 - 1) / 8) ≤ q := hp
  refine T_re [(3, (.pointer (some ⟨g1, 0, none⟩)))] (sc rfl sn) ?_
  refine T_he [0, 1, 2, 3, 4] [.obj D (.deferred (some [])), .row (.slice A1 ((n + 8 - 1) / 8) c1) 30 1 ((n + 8 - 1) / 8) ((wds b ((n + 8 - 1) / 8)).map b64), .rd (some ⟨g1_4, 0, none⟩) 1 1 1 [(.slice A n c)], .blk g1 69 [(.slice A1 ((n + 8 - 1) / 8) c1)], .rd A 1 n c (b.map b8)] ⟨by decide, rfl⟩ ?_
  refine Tsr hF rfl ?_
  refine lq rfl (ld_blk 3 rfl rfl Try.underlying69 rfl rfl rfl) rfl rfl ?_
  refine la rfl rfl rfl rfl rfl ?_
  refine L_nil ?_
  refine T_ret ?_
  refine T_slot 2 (.slice A1 ((n + 8 - 1) / 8) c1) (.slice A1 q c1) rfl (by rw [show (n + 8 - 1) / 8 = q from by omega]) ?_
  refine T_as 1 _ (.row (.slice A1 q c1) 30 1 q ((wds b q).map b64)) rfl (by rw [show (n + 8 - 1) / 8 = q from by omega]) ?_
  exact T_finM 1 rfl (A1, c1) (by first | trivial | omega | (simp; done)) (res1 rfl rfl) [0] ⟨by decide, rfl⟩ rfl
 ·
  exact fun D t hq => hq.elim
set_option maxHeartbeats 4000000 in
theorem eight_f (v : BitVec 64) (w : World) (hO : HOK [] w)  : Calls Try.prog 51 [(b64 v)].toArray w (Ret (T := Option Addr × Nat) [] w (fun ⟨B, d⟩ => True) (fun ⟨B, d⟩ => (.slice B 8 d)) (fun ⟨B, d⟩ => [.row (.slice B 8 d) 5 1 8 ((lowb v 8).map b8)])) := by
 have hF : Wid Fence.wide := wid_wide
 refine enter (c := _) Try.func51 rfl [] _ [] (by rw [Try.ntmps51]; rfl) (own_rds hO rfl) ?_
 rw [Try.ntmps51]
 refine T_re [(0, (b64 v))] (sc rfl sn) ?_
 refine T_he [] [] ⟨by decide, rfl⟩ ?_
 refine Tsr hF rfl ?_
 refine la rfl rfl rfl rfl rfl ?_
 refine L_nil ?_
 refine Tsr hF rfl ?_
 refine la rfl rfl rfl rfl rfl ?_
 refine L_nil ?_
 refine T_seq ?_
 refine Tsr hF rfl ?_
 refine la rfl rfl rfl rfl rfl ?_
 refine L_nil ?_
 refine T_block ?_
 refine T_nilrow 5 1 ?_
 refine T_as 0 _ (.row (.slice none 0 0) 5 1 0 ((lowb v 0).map b8)) rfl (by first | rfl | simp | (congr 1; simp)) ?_
 refine T_loop (T := Nat × Option Addr × Nat) (fun ⟨k, A1, c1⟩ => k ≤ 8) (fun ⟨k, A1, c1⟩ => [(0, (b64 v)), (3, (.slice A1 k c1)), (4, (.int .i64 ((k : Nat) : Int)))]) (fun ⟨k, A1, c1⟩ => [.row (.slice A1 k c1) 5 1 k ((lowb v k).map b8)]) (fun ⟨k, A1, c1⟩ => 8 - k) (0, none, 0) (by first | trivial | ((try dsimp only); first | omega | (refine ⟨?_, ?_⟩ <;> omega) | (refine ⟨?_, ?_, ?_⟩ <;> omega) | (simp; done) | (simp; omega))) (sc rfl (sc rfl (sc rfl sn))) [0] ⟨by decide, rfl⟩ ?_
 rintro ⟨k, A1, c1⟩ hp
 have hp : k ≤ 8 := hp
 refine T_re [(0, (b64 v)), (3, (.slice A1 k c1)), (4, (.int .i64 ((k : Nat) : Int)))] (sc rfl (sc rfl (sc rfl sn))) ?_
 refine T_he [0] [.row (.slice A1 k c1) 5 1 k ((lowb v k).map b8)] ⟨by decide, rfl⟩ ?_
 refine T_seq ?_
 refine Tsr hF rfl ?_
 refine lm rfl rfl rfl rfl rfl ?_
 refine lo rfl (pr_cmp (bo := .lss) (nc_lt (a := k) (b := 8)) rfl rfl rfl rfl) rfl rfl ?_
 refine L_nil ?_
 refine T_cond (decide (k < 8)) rfl (fun hc_1 => ?_) (fun hc_1 => ?_)
 ·
  have hc_1 := of_decide_eq_true hc_1
  refine T_skip ?_
  refine T_seq ?_
  refine T_block ?_
  refine T_reg hF rfl ?_
  refine lm rfl rfl rfl rfl rfl ?_
  refine lm rfl rfl rfl rfl rfl ?_
  refine lm rfl rfl rfl rfl rfl ?_
  refine lo rfl (pr_mul (nm_i64 (a := 8) (b := k) sd) rfl rfl rfl) rfl rfl ?_
  refine lo rfl (pr_cv (ni_u64 (a := 8 * k) sd) Try.underlying3 Try.underlying22 rfl rfl) rfl rfl ?_
  refine lo rfl (pr_shift (sh_shr64 v _ (8 * k)) rfl rfl rfl rfl) rfl rfl ?_
  refine lo rfl (pr_cv (cv64_8 _) Try.underlying30 Try.underlying5 rfl rfl) rfl rfl ?_
  refine L_op rfl (op_bslice (e := 5) (zs := [(b8 ((v >>> (8 * k)).setWidth 8))]) (qs := [(0, (b8 ((v >>> (8 * k)).setWidth 8)))]) (fun _ => by kernel_rfl) rfl rfl rfl rfl (fun g2 => ?_))
  refine L_op rfl (op_append (z := (b8 (0#8))) (size := 1) (bytes := 1) 1 rfl Try.underlying23 kr kr (by decide) (src_full (z := 1) 0 rfl rfl sd sd) (by simp [Value.oneCell']) sd sd rfl rfl rfl rfl rfl (fun A3 C4 => ?_))
  refine T_as 0 _ (.row (.slice A3 (k + 1) C4) 5 1 (k + 1) (((lowb v k) ++ [((v >>> (8 * k)).setWidth 8)]).map b8)) rfl (by first | rfl | (congr 1; simp; done) | (simp only [List.map_append]; rfl) | (rw [List.map_append]; rfl)) ?_
  refine la rfl rfl rfl rfl rfl ?_
  refine L_nil ?_
  refine T_reg hF rfl ?_
  refine lm rfl rfl rfl rfl rfl ?_
  refine lo rfl (pr_add (na_i64 (a := k) (b := 1) sd) rfl rfl rfl) rfl rfl ?_
  refine la rfl rfl rfl rfl rfl ?_
  refine L_nil ?_
  refine T_as 0 _ (.row (.slice A3 (k + 1) C4) 5 1 (k + 1) ((lowb v (k + 1)).map b8)) rfl (by first | rfl | simp | (congr 1; simp)) ?_
  exact T_again (k + 1, A3, C4) (by first | trivial | ((try dsimp only); first | omega | (refine ⟨?_, ?_⟩ <;> omega) | (refine ⟨?_, ?_, ?_⟩ <;> omega) | (simp; done) | (simp; omega))) (by first | trivial | ((try dsimp only); first | omega | (refine ⟨?_, ?_⟩ <;> omega) | (refine ⟨?_, ?_, ?_⟩ <;> omega) | (simp; done) | (simp; omega))) (sc rfl (sc rfl (sc rfl sn))) [0] ⟨by decide, rfl⟩
 ·
  have hc_1 := of_decide_eq_false hc_1
  refine T_exit rfl ?_
  obtain rfl : 8 = k := by omega
  refine Tsr hF rfl ?_
  refine lm rfl rfl rfl rfl rfl ?_
  refine la rfl rfl rfl rfl rfl ?_
  refine L_nil ?_
  refine T_ret ?_
  exact T_fin (A1, c1) (by first | trivial | omega | (simp; done)) (res1 rfl rfl) [0] ⟨by decide, rfl⟩ rfl
set_option maxHeartbeats 4000000 in
theorem eights_f (xs : List (BitVec 64)) (A : Option Addr) (n : Nat) (c : Nat) (w : World) (hO : HOK [.rd A 1 n c (xs.map b64)] w) (hx : xs.length = n) (hn : n ≤ 100) : Calls Try.prog 29 [(.slice A n c)].toArray w (Ret (T := Option Addr × Nat) [] w (fun ⟨B, d⟩ => True) (fun ⟨B, d⟩ => (.slice B (8 * n) d)) (fun ⟨B, d⟩ => [.row (.slice B (8 * n) d) 5 1 (8 * n) ((eights xs).map b8)])) := by
 have hF : Wid Fence.wide := wid_wide
 refine enter (c := _) Try.func29 rfl [] _ [.rd A 1 n c (xs.map b64)] (by rw [Try.ntmps29]; rfl) (own_rds hO rfl) ?_
 rw [Try.ntmps29]
 refine T_re [(0, (.slice A n c))] (sc rfl sn) ?_
 refine T_he [0] [.rd A 1 n c (xs.map b64)] ⟨by decide, rfl⟩ ?_
 refine Tsr hF rfl ?_
 refine la rfl rfl rfl rfl rfl ?_
 refine L_nil ?_
 refine Tsr hF rfl ?_
 refine la rfl rfl rfl rfl rfl ?_
 refine L_nil ?_
 refine T_seq ?_
 refine Tsr hF rfl ?_
 refine la rfl rfl rfl rfl rfl ?_
 refine L_nil ?_
 refine T_block ?_
 refine T_slot 3 (.slice none 0 0) (.slice none (8 * 0) 0) rfl (by first | rfl | (congr 2; omega) | (simp; omega)) ?_
 refine T_nilrow 5 1 ?_
 refine T_as 0 _ (.row (.slice none (8 * 0) 0) 5 1 (8 * 0) ((eights (xs.take 0)).map b8)) rfl (by first | rfl | simp | (congr 1; simp)) ?_
 refine T_loop (T := Nat × Option Addr × Nat) (fun ⟨k, A1, c1⟩ => k ≤ n) (fun ⟨k, A1, c1⟩ => [(0, (.slice A n c)), (3, (.slice A1 (8 * k) c1)), (4, (.int .i64 ((k : Nat) : Int)))]) (fun ⟨k, A1, c1⟩ => [.row (.slice A1 (8 * k) c1) 5 1 (8 * k) ((eights (xs.take k)).map b8), .rd A 1 n c (xs.map b64)]) (fun ⟨k, A1, c1⟩ => n - k) (0, none, 0) (by first | trivial | ((try dsimp only); first | omega | (refine ⟨?_, ?_⟩ <;> omega) | (refine ⟨?_, ?_, ?_⟩ <;> omega) | (simp; done) | (simp; omega))) (sc rfl (sc rfl (sc rfl sn))) [0, 1] ⟨by decide, rfl⟩ ?_
 rintro ⟨k, A1, c1⟩ hp
 have hp : k ≤ n := hp
 refine T_re [(0, (.slice A n c)), (3, (.slice A1 (8 * k) c1)), (4, (.int .i64 ((k : Nat) : Int)))] (sc rfl (sc rfl (sc rfl sn))) ?_
 refine T_he [0, 1] [.row (.slice A1 (8 * k) c1) 5 1 (8 * k) ((eights (xs.take k)).map b8), .rd A 1 n c (xs.map b64)] ⟨by decide, rfl⟩ ?_
 refine T_seq ?_
 refine Tsr hF rfl ?_
 refine lm rfl rfl rfl rfl rfl ?_
 refine lm rfl rfl rfl rfl rfl ?_
 refine lo rfl (pr_len_sl Try.underlying69 rfl rfl) rfl rfl ?_
 refine lo rfl (pr_cmp (bo := .lss) (nc_lt (a := k) (b := n)) rfl rfl rfl rfl) rfl rfl ?_
 refine L_nil ?_
 refine T_cond (decide (k < n)) rfl (fun hc_1 => ?_) (fun hc_1 => ?_)
 ·
  have hc_1 := of_decide_eq_true hc_1
  refine T_skip ?_
  refine T_seq ?_
  refine T_block ?_
  refine T_reg hF rfl ?_
  refine lm rfl rfl rfl rfl rfl ?_
  refine lm rfl rfl rfl rfl rfl ?_
  refine lm rfl rfl rfl rfl rfl ?_
  refine lo rfl (pr_ixs1 (j := k) (src_none (src_rd 1 rfl)) sd Try.underlying69 kr rfl rfl rfl) rfl rfl ?_
  refine lq rfl (ld_src (m := k) (src_rd 1 rfl) (get64 sd) Try.underlying30 rfl rfl rfl) rfl rfl ?_
  refine L_op rfl (op_cn (fun w hw => eight_f (ath xs k) w (hok_nil w) ) (enters_of Try.func51 kr rfl) rfl rfl rfl rfl rfl (fun t2 q3 => ?_))
  obtain ⟨B4, d5⟩ := t2
  refine L_op rfl (op_append (z := (b8 (0#8))) (size := 1) (bytes := 1) 1 rfl Try.underlying23 kr kr (by decide) (src_row 0 rfl) (all8_one _) sd sd rfl rfl rfl rfl rfl (fun A6 C7 => ?_))
  refine T_as 0 _ (.row (.slice A6 (8 * k + 8) C7) 5 1 (8 * k + 8) (((eights (xs.take k)) ++ (lowb (ath xs k) 8)).map b8)) rfl (by first | rfl | (congr 1; simp; done) | (simp only [List.map_append]; rfl) | (rw [List.map_append]; rfl)) ?_
  refine la rfl rfl rfl rfl rfl ?_
  refine L_nil ?_
  refine T_reg hF rfl ?_
  refine lm rfl rfl rfl rfl rfl ?_
  refine lo rfl (pr_add (na_i64 (a := k) (b := 1) sd) rfl rfl rfl) rfl rfl ?_
  refine la rfl rfl rfl rfl rfl ?_
  refine L_nil ?_
  refine T_slot 3 (.slice A6 (8 * k + 8) C7) (.slice A6 (8 * (k + 1)) C7) rfl (by first | rfl | (congr 2; omega) | (simp; omega)) ?_
  refine T_as 0 _ (.row (.slice A6 (8 * (k + 1)) C7) 5 1 (8 * (k + 1)) ((eights (xs.take (k + 1))).map b8)) rfl (by rw [eights_take _ _ (by omega)]; rfl) ?_
  exact T_again (k + 1, A6, C7) (by first | trivial | ((try dsimp only); first | omega | (refine ⟨?_, ?_⟩ <;> omega) | (refine ⟨?_, ?_, ?_⟩ <;> omega) | (simp; done) | (simp; omega))) (by first | trivial | ((try dsimp only); first | omega | (refine ⟨?_, ?_⟩ <;> omega) | (refine ⟨?_, ?_, ?_⟩ <;> omega) | (simp; done) | (simp; omega))) (sc rfl (sc rfl (sc rfl sn))) [0, 2] ⟨by decide, rfl⟩
 ·
  have hc_1 := of_decide_eq_false hc_1
  refine T_exit rfl ?_
  obtain rfl : n = k := by omega
  refine Tsr hF rfl ?_
  refine lm rfl rfl rfl rfl rfl ?_
  refine la rfl rfl rfl rfl rfl ?_
  refine L_nil ?_
  refine T_ret ?_
  refine T_as 0 _ (.row (.slice A1 (8 * n) c1) 5 1 (8 * n) ((eights xs).map b8)) rfl (by rw [List.take_of_length_le (by omega)]) ?_
  exact T_fin (A1, c1) (by first | trivial | omega | (simp; done)) (res1 rfl rfl) [0] ⟨by decide, rfl⟩ rfl
set_option maxHeartbeats 4000000 in
theorem number_f (b : List (BitVec 8)) (A : Option Addr) (n : Nat) (c : Nat) (w : World) (hO : HOK [.rd A 1 n c (b.map b8)] w) (hn : n = 8) (hb : b.length = n) : Calls Try.prog 38 [(.slice A n c)].toArray w (Ret (T := Unit) [] w (fun _ => True) (fun _ => (b64 (low b 8))) (fun _ => [])) := by
 have hF : Wid Fence.wide := wid_wide
 refine enter (c := _) Try.func38 rfl [] _ [.rd A 1 n c (b.map b8)] (by rw [Try.ntmps38]; rfl) (own_rds hO rfl) ?_
 rw [Try.ntmps38]
 refine T_re [(0, (.slice A n c))] (sc rfl sn) ?_
 refine T_he [0] [.rd A 1 n c (b.map b8)] ⟨by decide, rfl⟩ ?_
 refine Tsr hF rfl ?_
 refine la rfl rfl rfl rfl rfl ?_
 refine L_nil ?_
 refine Tsr hF rfl ?_
 refine la rfl rfl rfl rfl rfl ?_
 refine L_nil ?_
 refine T_seq ?_
 refine Tsr hF rfl ?_
 refine la rfl rfl rfl rfl rfl ?_
 refine L_nil ?_
 refine T_block ?_
 refine T_rounds 9 ?_
 refine T_round ?_
 refine T_seq ?_
 refine Tsr hF rfl ?_
 refine lm rfl rfl rfl rfl rfl ?_
 refine lo rfl (pr_cmp (bo := .geq) (nc_le (a := 0) (b := 7)) rfl rfl rfl rfl) rfl rfl ?_
 refine L_nil ?_
 refine T_cond_t rfl ?_
 refine T_skip ?_
 refine T_seq ?_
 refine T_block ?_
 refine T_reg hF rfl ?_
 refine lm rfl rfl rfl rfl rfl ?_
 refine lo rfl (pr_shift (sh_shl64 (0#64) _ 8) rfl rfl rfl rfl) rfl rfl ?_
 refine lm rfl rfl rfl rfl rfl ?_
 refine lm rfl rfl rfl rfl rfl ?_
 refine lo rfl (pr_ixs1 (j := 7) (src_none (src_rd 0 rfl)) sd Try.underlying23 kr rfl rfl rfl) rfl rfl ?_
 refine lq rfl (ld_src (m := 7) (src_rd 0 rfl) (get8 sd) Try.underlying5 rfl rfl rfl) rfl rfl ?_
 refine lo rfl (pr_cv (cv8_64 _) Try.underlying5 Try.underlying30 rfl rfl) rfl rfl ?_
 refine lo rfl (pr_or (ib_or64 _ _) rfl rfl rfl) rfl rfl ?_
 refine la rfl rfl rfl rfl rfl ?_
 refine L_nil ?_
 refine T_reg hF rfl ?_
 refine lm rfl rfl rfl rfl rfl ?_
 refine lo rfl ((pr_as (pr_sub (ns_i64 (a := 7) (b := 1) sd sd) rfl rfl rfl) (show Value.int .i64 ((7 - 1 : Nat) : Int) = .int .i64 ((6 : Nat) : Int) from rfl))) rfl rfl ?_
 refine la rfl rfl rfl rfl rfl ?_
 refine L_nil ?_
 refine T_round ?_
 refine T_seq ?_
 refine Tsr hF rfl ?_
 refine lm rfl rfl rfl rfl rfl ?_
 refine lo rfl (pr_cmp (bo := .geq) (nc_le (a := 0) (b := 6)) rfl rfl rfl rfl) rfl rfl ?_
 refine L_nil ?_
 refine T_cond_t rfl ?_
 refine T_skip ?_
 refine T_seq ?_
 refine T_block ?_
 refine T_reg hF rfl ?_
 refine lm rfl rfl rfl rfl rfl ?_
 refine lo rfl (pr_shift (sh_shl64 ((0#64 <<< 8) ||| ((ath b 7).setWidth 64)) _ 8) rfl rfl rfl rfl) rfl rfl ?_
 refine lm rfl rfl rfl rfl rfl ?_
 refine lm rfl rfl rfl rfl rfl ?_
 refine lo rfl (pr_ixs1 (j := 6) (src_none (src_rd 0 rfl)) sd Try.underlying23 kr rfl rfl rfl) rfl rfl ?_
 refine lq rfl (ld_src (m := 6) (src_rd 0 rfl) (get8 sd) Try.underlying5 rfl rfl rfl) rfl rfl ?_
 refine lo rfl (pr_cv (cv8_64 _) Try.underlying5 Try.underlying30 rfl rfl) rfl rfl ?_
 refine lo rfl (pr_or (ib_or64 _ _) rfl rfl rfl) rfl rfl ?_
 refine la rfl rfl rfl rfl rfl ?_
 refine L_nil ?_
 refine T_reg hF rfl ?_
 refine lm rfl rfl rfl rfl rfl ?_
 refine lo rfl ((pr_as (pr_sub (ns_i64 (a := 6) (b := 1) sd sd) rfl rfl rfl) (show Value.int .i64 ((6 - 1 : Nat) : Int) = .int .i64 ((5 : Nat) : Int) from rfl))) rfl rfl ?_
 refine la rfl rfl rfl rfl rfl ?_
 refine L_nil ?_
 refine T_round ?_
 refine T_seq ?_
 refine Tsr hF rfl ?_
 refine lm rfl rfl rfl rfl rfl ?_
 refine lo rfl (pr_cmp (bo := .geq) (nc_le (a := 0) (b := 5)) rfl rfl rfl rfl) rfl rfl ?_
 refine L_nil ?_
 refine T_cond_t rfl ?_
 refine T_skip ?_
 refine T_seq ?_
 refine T_block ?_
 refine T_reg hF rfl ?_
 refine lm rfl rfl rfl rfl rfl ?_
 refine lo rfl (pr_shift (sh_shl64 ((((0#64 <<< 8) ||| ((ath b 7).setWidth 64)) <<< 8) ||| ((ath b 6).setWidth 64)) _ 8) rfl rfl rfl rfl) rfl rfl ?_
 refine lm rfl rfl rfl rfl rfl ?_
 refine lm rfl rfl rfl rfl rfl ?_
 refine lo rfl (pr_ixs1 (j := 5) (src_none (src_rd 0 rfl)) sd Try.underlying23 kr rfl rfl rfl) rfl rfl ?_
 refine lq rfl (ld_src (m := 5) (src_rd 0 rfl) (get8 sd) Try.underlying5 rfl rfl rfl) rfl rfl ?_
 refine lo rfl (pr_cv (cv8_64 _) Try.underlying5 Try.underlying30 rfl rfl) rfl rfl ?_
 refine lo rfl (pr_or (ib_or64 _ _) rfl rfl rfl) rfl rfl ?_
 refine la rfl rfl rfl rfl rfl ?_
 refine L_nil ?_
 refine T_reg hF rfl ?_
 refine lm rfl rfl rfl rfl rfl ?_
 refine lo rfl ((pr_as (pr_sub (ns_i64 (a := 5) (b := 1) sd sd) rfl rfl rfl) (show Value.int .i64 ((5 - 1 : Nat) : Int) = .int .i64 ((4 : Nat) : Int) from rfl))) rfl rfl ?_
 refine la rfl rfl rfl rfl rfl ?_
 refine L_nil ?_
 refine T_round ?_
 refine T_seq ?_
 refine Tsr hF rfl ?_
 refine lm rfl rfl rfl rfl rfl ?_
 refine lo rfl (pr_cmp (bo := .geq) (nc_le (a := 0) (b := 4)) rfl rfl rfl rfl) rfl rfl ?_
 refine L_nil ?_
 refine T_cond_t rfl ?_
 refine T_skip ?_
 refine T_seq ?_
 refine T_block ?_
 refine T_reg hF rfl ?_
 refine lm rfl rfl rfl rfl rfl ?_
 refine lo rfl (pr_shift (sh_shl64 ((((((0#64 <<< 8) ||| ((ath b 7).setWidth 64)) <<< 8) ||| ((ath b 6).setWidth 64)) <<< 8) ||| ((ath b 5).setWidth 64)) _ 8) rfl rfl rfl rfl) rfl rfl ?_
 refine lm rfl rfl rfl rfl rfl ?_
 refine lm rfl rfl rfl rfl rfl ?_
 refine lo rfl (pr_ixs1 (j := 4) (src_none (src_rd 0 rfl)) sd Try.underlying23 kr rfl rfl rfl) rfl rfl ?_
 refine lq rfl (ld_src (m := 4) (src_rd 0 rfl) (get8 sd) Try.underlying5 rfl rfl rfl) rfl rfl ?_
 refine lo rfl (pr_cv (cv8_64 _) Try.underlying5 Try.underlying30 rfl rfl) rfl rfl ?_
 refine lo rfl (pr_or (ib_or64 _ _) rfl rfl rfl) rfl rfl ?_
 refine la rfl rfl rfl rfl rfl ?_
 refine L_nil ?_
 refine T_reg hF rfl ?_
 refine lm rfl rfl rfl rfl rfl ?_
 refine lo rfl ((pr_as (pr_sub (ns_i64 (a := 4) (b := 1) sd sd) rfl rfl rfl) (show Value.int .i64 ((4 - 1 : Nat) : Int) = .int .i64 ((3 : Nat) : Int) from rfl))) rfl rfl ?_
 refine la rfl rfl rfl rfl rfl ?_
 refine L_nil ?_
 refine T_re [(0, (.slice A n c)), (3, (b64 ((((((((0#64 <<< 8) ||| ((ath b 7).setWidth 64)) <<< 8) ||| ((ath b 6).setWidth 64)) <<< 8) ||| ((ath b 5).setWidth 64)) <<< 8) ||| ((ath b 4).setWidth 64)))), (4, (.int .i64 ((3 : Nat) : Int)))] (sc rfl (sc rfl (sc rfl sn))) ?_
 refine T_he [0] [.rd A 1 n c (b.map b8)] ⟨by decide, rfl⟩ ?_
 refine T_round ?_
 refine T_seq ?_
 refine Tsr hF rfl ?_
 refine lm rfl rfl rfl rfl rfl ?_
 refine lo rfl (pr_cmp (bo := .geq) (nc_le (a := 0) (b := 3)) rfl rfl rfl rfl) rfl rfl ?_
 refine L_nil ?_
 refine T_cond_t rfl ?_
 refine T_skip ?_
 refine T_seq ?_
 refine T_block ?_
 refine T_reg hF rfl ?_
 refine lm rfl rfl rfl rfl rfl ?_
 refine lo rfl (pr_shift (sh_shl64 ((((((((0#64 <<< 8) ||| ((ath b 7).setWidth 64)) <<< 8) ||| ((ath b 6).setWidth 64)) <<< 8) ||| ((ath b 5).setWidth 64)) <<< 8) ||| ((ath b 4).setWidth 64)) _ 8) rfl rfl rfl rfl) rfl rfl ?_
 refine lm rfl rfl rfl rfl rfl ?_
 refine lm rfl rfl rfl rfl rfl ?_
 refine lo rfl (pr_ixs1 (j := 3) (src_none (src_rd 0 rfl)) sd Try.underlying23 kr rfl rfl rfl) rfl rfl ?_
 refine lq rfl (ld_src (m := 3) (src_rd 0 rfl) (get8 sd) Try.underlying5 rfl rfl rfl) rfl rfl ?_
 refine lo rfl (pr_cv (cv8_64 _) Try.underlying5 Try.underlying30 rfl rfl) rfl rfl ?_
 refine lo rfl (pr_or (ib_or64 _ _) rfl rfl rfl) rfl rfl ?_
 refine la rfl rfl rfl rfl rfl ?_
 refine L_nil ?_
 refine T_reg hF rfl ?_
 refine lm rfl rfl rfl rfl rfl ?_
 refine lo rfl ((pr_as (pr_sub (ns_i64 (a := 3) (b := 1) sd sd) rfl rfl rfl) (show Value.int .i64 ((3 - 1 : Nat) : Int) = .int .i64 ((2 : Nat) : Int) from rfl))) rfl rfl ?_
 refine la rfl rfl rfl rfl rfl ?_
 refine L_nil ?_
 refine T_round ?_
 refine T_seq ?_
 refine Tsr hF rfl ?_
 refine lm rfl rfl rfl rfl rfl ?_
 refine lo rfl (pr_cmp (bo := .geq) (nc_le (a := 0) (b := 2)) rfl rfl rfl rfl) rfl rfl ?_
 refine L_nil ?_
 refine T_cond_t rfl ?_
 refine T_skip ?_
 refine T_seq ?_
 refine T_block ?_
 refine T_reg hF rfl ?_
 refine lm rfl rfl rfl rfl rfl ?_
 refine lo rfl (pr_shift (sh_shl64 ((((((((((0#64 <<< 8) ||| ((ath b 7).setWidth 64)) <<< 8) ||| ((ath b 6).setWidth 64)) <<< 8) ||| ((ath b 5).setWidth 64)) <<< 8) ||| ((ath b 4).setWidth 64)) <<< 8) ||| ((ath b 3).setWidth 64)) _ 8) rfl rfl rfl rfl) rfl rfl ?_
 refine lm rfl rfl rfl rfl rfl ?_
 refine lm rfl rfl rfl rfl rfl ?_
 refine lo rfl (pr_ixs1 (j := 2) (src_none (src_rd 0 rfl)) sd Try.underlying23 kr rfl rfl rfl) rfl rfl ?_
 refine lq rfl (ld_src (m := 2) (src_rd 0 rfl) (get8 sd) Try.underlying5 rfl rfl rfl) rfl rfl ?_
 refine lo rfl (pr_cv (cv8_64 _) Try.underlying5 Try.underlying30 rfl rfl) rfl rfl ?_
 refine lo rfl (pr_or (ib_or64 _ _) rfl rfl rfl) rfl rfl ?_
 refine la rfl rfl rfl rfl rfl ?_
 refine L_nil ?_
 refine T_reg hF rfl ?_
 refine lm rfl rfl rfl rfl rfl ?_
 refine lo rfl ((pr_as (pr_sub (ns_i64 (a := 2) (b := 1) sd sd) rfl rfl rfl) (show Value.int .i64 ((2 - 1 : Nat) : Int) = .int .i64 ((1 : Nat) : Int) from rfl))) rfl rfl ?_
 refine la rfl rfl rfl rfl rfl ?_
 refine L_nil ?_
 refine T_round ?_
 refine T_seq ?_
 refine Tsr hF rfl ?_
 refine lm rfl rfl rfl rfl rfl ?_
 refine lo rfl (pr_cmp (bo := .geq) (nc_le (a := 0) (b := 1)) rfl rfl rfl rfl) rfl rfl ?_
 refine L_nil ?_
 refine T_cond_t rfl ?_
 refine T_skip ?_
 refine T_seq ?_
 refine T_block ?_
 refine T_reg hF rfl ?_
 refine lm rfl rfl rfl rfl rfl ?_
 refine lo rfl (pr_shift (sh_shl64 ((((((((((((0#64 <<< 8) ||| ((ath b 7).setWidth 64)) <<< 8) ||| ((ath b 6).setWidth 64)) <<< 8) ||| ((ath b 5).setWidth 64)) <<< 8) ||| ((ath b 4).setWidth 64)) <<< 8) ||| ((ath b 3).setWidth 64)) <<< 8) ||| ((ath b 2).setWidth 64)) _ 8) rfl rfl rfl rfl) rfl rfl ?_
 refine lm rfl rfl rfl rfl rfl ?_
 refine lm rfl rfl rfl rfl rfl ?_
 refine lo rfl (pr_ixs1 (j := 1) (src_none (src_rd 0 rfl)) sd Try.underlying23 kr rfl rfl rfl) rfl rfl ?_
 refine lq rfl (ld_src (m := 1) (src_rd 0 rfl) (get8 sd) Try.underlying5 rfl rfl rfl) rfl rfl ?_
 refine lo rfl (pr_cv (cv8_64 _) Try.underlying5 Try.underlying30 rfl rfl) rfl rfl ?_
 refine lo rfl (pr_or (ib_or64 _ _) rfl rfl rfl) rfl rfl ?_
 refine la rfl rfl rfl rfl rfl ?_
 refine L_nil ?_
 refine T_reg hF rfl ?_
 refine lm rfl rfl rfl rfl rfl ?_
 refine lo rfl ((pr_as (pr_sub (ns_i64 (a := 1) (b := 1) sd sd) rfl rfl rfl) (show Value.int .i64 ((1 - 1 : Nat) : Int) = .int .i64 ((0 : Nat) : Int) from rfl))) rfl rfl ?_
 refine la rfl rfl rfl rfl rfl ?_
 refine L_nil ?_
 refine T_round ?_
 refine T_seq ?_
 refine Tsr hF rfl ?_
 refine lm rfl rfl rfl rfl rfl ?_
 refine lo rfl (pr_cmp (bo := .geq) (nc_le (a := 0) (b := 0)) rfl rfl rfl rfl) rfl rfl ?_
 refine L_nil ?_
 refine T_cond_t rfl ?_
 refine T_skip ?_
 refine T_seq ?_
 refine T_block ?_
 refine T_reg hF rfl ?_
 refine lm rfl rfl rfl rfl rfl ?_
 refine lo rfl (pr_shift (sh_shl64 ((((((((((((((0#64 <<< 8) ||| ((ath b 7).setWidth 64)) <<< 8) ||| ((ath b 6).setWidth 64)) <<< 8) ||| ((ath b 5).setWidth 64)) <<< 8) ||| ((ath b 4).setWidth 64)) <<< 8) ||| ((ath b 3).setWidth 64)) <<< 8) ||| ((ath b 2).setWidth 64)) <<< 8) ||| ((ath b 1).setWidth 64)) _ 8) rfl rfl rfl rfl) rfl rfl ?_
 refine lm rfl rfl rfl rfl rfl ?_
 refine lm rfl rfl rfl rfl rfl ?_
 refine lo rfl (pr_ixs1 (j := 0) (src_none (src_rd 0 rfl)) sd Try.underlying23 kr rfl rfl rfl) rfl rfl ?_
 refine lq rfl (ld_src (m := 0) (src_rd 0 rfl) (get8 sd) Try.underlying5 rfl rfl rfl) rfl rfl ?_
 refine lo rfl (pr_cv (cv8_64 _) Try.underlying5 Try.underlying30 rfl rfl) rfl rfl ?_
 refine lo rfl (pr_or (ib_or64 _ _) rfl rfl rfl) rfl rfl ?_
 refine la rfl rfl rfl rfl rfl ?_
 refine L_nil ?_
 refine T_reg hF rfl ?_
 refine lm rfl rfl rfl rfl rfl ?_
 refine lo rfl ((pr_as (pr_sub (zw_i64 (z := (((0 : Nat) : Int) - ((1 : Nat) : Int))) sd) rfl rfl rfl) (show Value.int .i64 (((0 : Nat) : Int) - ((1 : Nat) : Int)) = .int .i64 (-1) from rfl))) rfl rfl ?_
 refine la rfl rfl rfl rfl rfl ?_
 refine L_nil ?_
 refine T_round ?_
 refine T_seq ?_
 refine Tsr hF rfl ?_
 refine lm rfl rfl rfl rfl rfl ?_
 refine lo rfl (pr_cmp (bo := .geq) (k := .i64) (a := (-1)) (b := ((0 : Nat) : Int)) (c := decide (((0 : Nat) : Int) ≤ (-1))) rfl rfl rfl rfl rfl) rfl rfl ?_
 refine L_nil ?_
 refine T_cond_no (t := decide (((0 : Nat) : Int) ≤ (-1))) rfl (by decide) ?_
 refine T_exit rfl ?_
 refine Tsr hF rfl ?_
 refine lm rfl rfl rfl rfl rfl ?_
 refine la rfl rfl rfl rfl rfl ?_
 refine L_nil ?_
 refine T_ret ?_
 refine T_slot 2 _ (b64 (low b 8)) rfl (by rw [← num8 b]) ?_
 exact T_fin () (by first | trivial | omega | (simp; done)) (res1 rfl rfl) [] ⟨by decide, rfl⟩ rfl
end Go.Proofs.Ytlplpmkdebemnaa
