/- What package poly tags, by facts. Conditions: parts together below 10^9 bytes. -/
import Derived.Test.YtemjinkdfjoicaaGPoly2
import Derived.Test.YtemjinkdfjoicaaGSeq
import Derived.Test.YtemjinkdfjoicaaProg
import Derived.Test.YtemjinkdfjoicaaFwU
namespace Go.Proofs.Ytemjinkdfjoicaa
set_option linter.unusedVariables false
set_option linter.unusedSimpArgs false
set_option linter.unnecessarySimpa false
open Go.RowKit Bv Fw

theorem c6_nil : catp [] = [] := rfl
theorem c6_cons (p : Pt) (L : List Pt) : catp (p :: L) = p.xs ++ catp L := by simp [catp]
/-- The bytes of the first k numbers, eight each. -/
def eib (xs : List (BitVec 64)) : Nat → List (BitVec 8)
  | 0 => []
  | k + 1 => eib xs k ++ lowb (ath xs k) 8
theorem eib_zero (xs : List (BitVec 64)) : eib xs 0 = [] := rfl
theorem eib_succ (xs : List (BitVec 64)) (k : Nat) : eib xs (k + 1) = eib xs k ++ lowb (ath xs k) 8 := rfl
theorem eib_len (xs : List (BitVec 64)) : ∀ k, (eib xs k).length = 8 * k
  | 0 => rfl
  | k + 1 => by rw [eib, List.length_append, eib_len xs k, lowb_len]; omega
theorem pr_limbs (key : List (BitVec 8)) : (low (clampb key) 8).toNat + 18446744073709551616 * (low (List.take 8 (List.drop 8 (clampb key))) 8).toNat = pr key := by
  have h1 := vw_take16 (clampb key) 16 (by rw [clampb_len]; omega)
  rw [List.take_of_length_le (by rw [clampb_len]; omega)] at h1
  rw [List.take_of_length_le (by rw [List.length_drop, clampb_len]; omega)]
  unfold pr
  rw [h1]
theorem pr_limbs_lt (key : List (BitVec 8)) : (low (clampb key) 8).toNat + 18446744073709551616 * (low (List.take 8 (List.drop 8 (clampb key))) 8).toNat < 21267647932558653966460912964485513216 := by
  rw [pr_limbs]; exact pr_lt key
theorem low_take (xs : List (BitVec 8)) (n : Nat) : ∀ k, k ≤ n → low (xs.take n) k = low xs k
  | 0, _ => rfl
  | k + 1, h => by rw [low, low, low_take xs n k (by omega), ath_take xs n k (by omega)]
theorem ps_limbs (key : List (BitVec 8)) (h : key.length = 32) : v3 (low (List.take 16 (List.drop 16 key)) 8) (low (List.take 8 (List.drop 24 key)) 8) 0#64 = ps key := by
  have h1 := vw_take16 (List.drop 16 key) 16 (by rw [List.length_drop]; omega)
  have h0 : (0#64).toNat = 0 := rfl
  unfold ps
  rw [v3_def, low_take _ _ _ (by omega), low_take _ _ _ (by omega), h0, h1, List.drop_drop, show 16 + 8 = 24 from rfl]
  omega
theorem blk_min (t : List (BitVec 8)) (n k : Nat) (h : t.length = n) : List.take (min 16 (n - 16 * k)) (List.drop (16 * k) t) = pblk t k := by
  unfold pblk
  have hl : (List.drop (16 * k) t).length = n - 16 * k := by rw [List.length_drop, h]
  by_cases h1 : 16 ≤ n - 16 * k
  · rw [Nat.min_eq_left h1]
  · rw [Nat.min_eq_right (by omega), List.take_of_length_le (by omega), List.take_of_length_le (by omega)]
theorem side_c {a0 a1 a2 x y z : BitVec 64} {Y : Nat} (h : v3 a0 a1 a2 < 1573805947009340393518107559371927977984) (hz : v3 x y z = Y ∧ z.toNat ≤ 1) : a2.toNat + z.toNat + 1 < 18446744073709551616 := by
  have h1 := v3_lt_top (B := 5) (Nat.lt_trans h (by decide)); omega
theorem side_e {a0 a1 a2 : BitVec 64} (h : v3 a0 a1 a2 < 2722258935367507707706996859454145691648) : a2.toNat + (0#64).toNat + 1 < 18446744073709551616 := by
  have h1 := v3_lt_top (B := 8) (Nat.lt_of_lt_of_le h (by decide))
  have h0 : (0#64).toNat = 0 := rfl
  omega
theorem side_d {a0 a1 a2 x y z s0 s1 s2 : BitVec 64} {b : List (BitVec 8)} (h : v3 a0 a1 a2 < 1573805947009340393518107559371927977984) (hz : v3 x y z = pv b ∧ z.toNat ≤ 1) (hs : v3 s0 s1 s2 = v3 a0 a1 a2 + v3 x y z) (hb : b.length ≤ 16) : v3 s0 s1 s2 < 2722258935367507707706996859454145691648 := by
  have h1 := pv_lt b hb
  have h2 : (2 : Nat) ^ 129 = 680564733841876926926749214863536422912 := rfl
  rw [h2] at h1
  omega
theorem tag_next {a0 a1 a2 x y z s0 s1 s2 b0 b1 b2 : BitVec 64} {t : List (BitVec 8)} {n k r R : Nat} (ht : t.length = n) (hR : R = r) (hz : v3 x y z = pv (List.take (min 16 (n - 16 * k)) (List.drop (16 * k) t)) ∧ z.toNat ≤ 1) (hs : v3 s0 s1 s2 = v3 a0 a1 a2 + v3 x y z)
    (hb : v3 b0 b1 b2 % polyP = v3 s0 s1 s2 * R % polyP ∧ v3 b0 b1 b2 < 1573805947009340393518107559371927977984) (hp : v3 a0 a1 a2 % polyP = pacc r t k ∧ v3 a0 a1 a2 < 1573805947009340393518107559371927977984) : v3 b0 b1 b2 % polyP = pacc r t (k + 1) ∧ v3 b0 b1 b2 < 1573805947009340393518107559371927977984 := by
  refine ⟨?_, hb.2⟩
  rw [hb.1, hR]
  refine pacc_next r t k (v3 a0 a1 a2) _ hp.1 ?_
  rw [hs, hz.1, blk_min t n k ht]
/-- One look at whether the sum is below the modulus. -/
def Lst (M i : Nat) (a b c : BitVec 64) : Prop := i ≤ 2 ∧ v3 a b c % polyP = M ∧ v3 a b c < 1573805947009340393518107559371927977984 ∧ (1 ≤ i → v3 a b c < polyP)
theorem lst_lt {M i : Nat} {a b c : BitVec 64} (h : Lst M i a b c) : v3 a b c < 2722258935367507707706996859454145691648 := Nat.lt_trans h.2.2.1 (by decide)
theorem lst_hi {M i : Nat} {a b c p q r : BitVec 64} (h : Lst M i a b c) (hi : i < 2) (hs : v3 p q r = v3 a b c + v3 5#64 0#64 0#64) (hc : 4#64 ≤ r) : Lst M (i + 1) p q (r - 4#64) := by
  have h5 : v3 5#64 0#64 0#64 = 5 := by rw [v3_def]; rfl
  rw [h5] at hs
  have hc2 : 4 ≤ r.toNat := BitVec.le_def.1 hc
  have hr : (r - 4#64).toNat = r.toNat - 4 := by
    rw [BitVec.toNat_sub]
    have := r.isLt
    have h4 : (4#64).toNat = 4 := rfl
    rw [h4]; omega
  have e : v3 p q (r - 4#64) + polyP = v3 a b c := by
    rw [v3_def] at hs ⊢
    rw [hr, polyP_eq]
    omega
  obtain ⟨h1, h2, h3, h4⟩ := h
  have e2 : v3 p q (r - 4#64) % polyP = M := by rw [← h2, ← e, Nat.add_mod_right]
  have hP : polyP = 1361129467683753853853498429727072845819 := by rw [polyP_eq]
  refine ⟨by omega, e2, by omega, fun _ => ?_⟩
  rw [hP] at e ⊢
  omega
theorem lst_lo {M i : Nat} {a b c p q r : BitVec 64} (h : Lst M i a b c) (hi : i < 2) (hs : v3 p q r = v3 a b c + v3 5#64 0#64 0#64) (hc : ¬ 4#64 ≤ r) : Lst M (i + 1) a b c := by
  have h5 : v3 5#64 0#64 0#64 = 5 := by rw [v3_def]; rfl
  rw [h5] at hs
  have hc2 : ¬ 4 ≤ r.toNat := fun h => hc (BitVec.le_def.2 h)
  obtain ⟨h1, h2, h3, h4⟩ := h
  refine ⟨by omega, h2, h3, fun _ => ?_⟩
  have hP : polyP = 1361129467683753853853498429727072845819 := by rw [polyP_eq]
  rw [hP]
  rw [v3_def p q r] at hs
  have := p.isLt
  have := q.isLt
  omega
theorem lst_end {M i : Nat} {a b c : BitVec 64} (h : Lst M i a b c) (hi : i = 2) : v3 a b c = M := by
  obtain ⟨h1, h2, h3, h4⟩ := h
  rw [← h2, Nat.mod_eq_of_lt (h4 (by omega))]
theorem lst_zero {M : Nat} {a b c : BitVec 64} (h : v3 a b c % polyP = M ∧ v3 a b c < 1573805947009340393518107559371927977984) : Lst M 0 a b c := ⟨by omega, h.1, h.2, fun h => by omega⟩
theorem tag_fin {f0 f1 f2 e0 e1 e2 x y : BitVec 64} {key t : List (BitVec 8)} {n : Nat} (ht : t.length = n) (hs : v3 f0 f1 f2 = v3 e0 e1 e2 + v3 x y 0#64) (he : v3 e0 e1 e2 = pacc (pr key) t ((n + 16 - 1) / 16)) (hx : v3 x y 0#64 = ps key) : eib [f0, f1] 2 = ptag key t := by
  have e : eib [f0, f1] 2 = lowb f0 8 ++ lowb f1 8 := rfl
  have h0 : f0.toNat < 256 ^ 8 := f0.isLt
  rw [e, lowb_dig _ _ (by omega), lowb_dig _ _ (by omega), dig_app 8 8 _ _ h0]
  rw [v3_def, hx, he] at hs
  rw [ptag_def, ht, show (n + 15) / 16 = (n + 16 - 1) / 16 by omega, ← hs, ← dig_mod 8 16 (f0.toNat + 18446744073709551616 * f1.toNat + 340282366920938463463374607431768211456 * f2.toNat) 16 (Nat.le_refl _), ← dig_mod 8 (8 + 8) (f0.toNat + 256 ^ 8 * f1.toNat) 16 (by omega)]
  congr 1
  have p8 : (256 : Nat) ^ 8 = 18446744073709551616 := rfl
  have p16 : (256 : Nat) ^ 16 = 340282366920938463463374607431768211456 := rfl
  rw [p8, p16]
  omega
attribute [irreducible] eib Lst

set_option maxHeartbeats 4000000 in
theorem eights_f (xs : List (BitVec 64)) (A : Option Addr) (n : Nat) (c : Nat) (w : World) (hO : HOK [.rd A 1 n c (xs.map b64)] w) (hx : xs.length = n) (hn : n ≤ 100000) : Calls Try.prog 38 [(.slice A n c)].toArray w (Ret (T := Option Addr × Nat) [] w (fun ⟨B, d⟩ => True) (fun ⟨B, d⟩ => (.slice B (8 * n) d)) (fun ⟨B, d⟩ => [.row (.slice B (8 * n) d) 5 1 (8 * n) ((eib xs n).map b8)])) := by
 have hF : Wid Fence.wide := wid_wide
 refine enter (c := _) Try.func38 rfl [] [(.slice A n c)] [.rd A 1 n c (xs.map b64)] (by rw [Try.ntmps38]; rfl) (own_rds hO rfl) ?_
 rw [Try.ntmps38]
 refine T_re [(0, (.slice A n c))] (sc rfl sn) ?_
 refine T_he [0] [.rd A 1 n c (xs.map b64)] ⟨by decide, rfl⟩ ?_
 refine Tsr hF rfl ?_
 refine la rfl rfl rfl rfl rfl ?_
 refine L_nil ?_
 refine Tsr hF rfl ?_
 refine lm rfl rfl rfl rfl rfl ?_
 refine lo rfl (pr_len_sl Try.underlying77 rfl rfl) rfl rfl ?_
 refine lo rfl (pr_mul (nm_i64 (a := 8) (b := n) sd) rfl rfl rfl) rfl rfl ?_
 refine L_op rfl (op_make (z := (b8 (0#8))) (n := 0) (c := 8 * n) Try.underlying25 (bytes := 1) kr rfl sd sd sd rfl rfl rfl rfl rfl (fun g1 => ?_))
 refine T_as 0 _ (.blk g1 5 ((List.replicate (8 * n) 0#8).map b8)) rfl (by rw [List.map_replicate]) ?_
 refine la rfl rfl rfl rfl rfl ?_
 refine L_nil ?_
 refine T_seq ?_
 refine Tsr hF rfl ?_
 refine lm rfl rfl rfl rfl rfl ?_
 refine lo rfl (pr_len_sl Try.underlying77 rfl rfl) rfl rfl ?_
 refine lm rfl rfl rfl rfl rfl ?_
 refine L_nil ?_
 refine T_block ?_
 refine T_slot 3 (.slice (some ⟨g1, 0, none⟩) 0 (8 * n)) (.slice (some ⟨g1, 0, none⟩) (8 * 0) (8 * n)) rfl (by first | rfl | (congr 2; omega) | (simp; omega)) ?_
 refine T_rowb 0 (zs := ((eib xs 0).map b8)) 1 (8 * 0) (8 * n) rfl sd sd sd (by rw [eib_zero]; rfl) ?_
 refine T_loop (T := Nat × Option Addr × Nat) (fun ⟨k, A1, c1⟩ => k ≤ n) (fun ⟨k, A1, c1⟩ => [(3, (.slice A1 (8 * k) c1)), (10, (.slice A n c)), (11, (.int .i64 ((n : Nat) : Int))), (12, (.int .i64 ((k : Nat) : Int)))]) (fun ⟨k, A1, c1⟩ => [.row (.slice A1 (8 * k) c1) 5 1 (8 * k) ((eib xs k).map b8), .rd A 1 n c (xs.map b64)]) (fun ⟨k, A1, c1⟩ => n - k) (0, some ⟨g1, 0, none⟩, 8 * n) (by first | trivial | ((try dsimp only); first | omega | (refine ⟨?_, ?_⟩ <;> omega) | (refine ⟨?_, ?_, ?_⟩ <;> omega) | (simp; done) | (simp; omega))) (sc rfl (sc rfl (sc rfl (sc rfl sn)))) [0, 1] ⟨by decide, rfl⟩ ?_
 rintro ⟨k, A1, c1⟩ hp
 have hp : k ≤ n := hp
 refine T_re [(3, (.slice A1 (8 * k) c1)), (10, (.slice A n c)), (11, (.int .i64 ((n : Nat) : Int))), (12, (.int .i64 ((k : Nat) : Int)))] (sc rfl (sc rfl (sc rfl (sc rfl sn)))) ?_
 refine T_he [0, 1] [.row (.slice A1 (8 * k) c1) 5 1 (8 * k) ((eib xs k).map b8), .rd A 1 n c (xs.map b64)] ⟨by decide, rfl⟩ ?_
 refine Tsr hF rfl ?_
 refine lo rfl (pr_cmp (bo := .lss) (nc_lt (a := k) (b := n)) rfl rfl rfl rfl) rfl rfl ?_
 refine L_nil ?_
 refine T_seq ?_
 refine T_cond (decide (k < n)) rfl (fun hc_2 => ?_) (fun hc_2 => ?_)
 ·
  have hc_2 := of_decide_eq_true hc_2
  refine T_skip ?_
  refine T_seq ?_
  refine T_block ?_
  refine Tsr hF rfl ?_
  refine lo rfl (pr_ixs1 (j := k) (src_none (src_rd 1 rfl)) sd Try.underlying77 kr rfl rfl rfl) rfl rfl ?_
  refine lq rfl (ld_src (m := k) (src_rd 1 rfl) (get64 sd) Try.underlying49 rfl rfl rfl) rfl rfl ?_
  refine la rfl rfl rfl rfl rfl ?_
  refine L_nil ?_
  refine T_reg hF rfl ?_
  refine lm rfl rfl rfl rfl rfl ?_
  refine lm rfl rfl rfl rfl rfl ?_
  refine L_op rfl (op_c1 0 rfl (fun w hw => putLow_f (eib xs k) (ath xs k) 8 A1 (8 * k) c1 w (hw _ (List.mem_of_getElem? (i := 0) rfl)) sd sd) (enters_of Try.func52 kr rfl) rfl rfl rfl rfl rfl (fun t3 q4 => ?_))
  obtain ⟨B5, d6⟩ := t3
  refine la rfl rfl rfl rfl rfl ?_
  refine L_nil ?_
  refine T_reg hF rfl ?_
  refine lo rfl (pr_add (na_i64 (a := k) (b := 1) sd) rfl rfl rfl) rfl rfl ?_
  refine lm rfl rfl rfl rfl rfl ?_
  refine L_nil ?_
  refine T_slot 3 (.slice B5 ((8 * k) + 8) d6) (.slice B5 (8 * (k + 1)) d6) rfl (by rfl) ?_
  refine T_as 0 _ (.row (.slice B5 (8 * (k + 1)) d6) 5 1 (8 * (k + 1)) ((eib xs (k + 1)).map b8)) rfl (by rw [eib_succ]; rfl) ?_
  exact T_again (k + 1, B5, d6) (by first | trivial | ((try dsimp only); first | omega | (refine ⟨?_, ?_⟩ <;> omega) | (refine ⟨?_, ?_, ?_⟩ <;> omega) | (simp; done) | (simp; omega))) (by first | trivial | ((try dsimp only); first | omega | (refine ⟨?_, ?_⟩ <;> omega) | (refine ⟨?_, ?_, ?_⟩ <;> omega) | (simp; done) | (simp; omega))) (sc rfl (sc rfl (sc rfl (sc rfl sn)))) [0, 1] ⟨by decide, rfl⟩
 ·
  have hc_2 := of_decide_eq_false hc_2
  refine T_exit rfl ?_
  obtain rfl : n = k := by omega
  refine Tsr hF rfl ?_
  refine lm rfl rfl rfl rfl rfl ?_
  refine la rfl rfl rfl rfl rfl ?_
  refine L_nil ?_
  refine T_ret ?_
  exact T_fin (A1, c1) (by first | trivial | omega | (simp; done)) (res1 rfl rfl) [0] ⟨by decide, rfl⟩ rfl
set_option maxHeartbeats 4000000 in
theorem ptag_f (key : List (BitVec 8)) (Q : List Pt) (A : Option Addr) (nq : Nat) (c : Nat) (w : World) (hO : HOK [.rd A 1 nq c (Q.map Pt.sl), .all Q] w) (hkl : key.length = 32) (hQ : Q.length = nq) (hm : nq ≤ 100000000) (hs : (catp Q).length ≤ 1000000000) : Calls Try.prog 18 [(.agg (key.map b8).toArray), (.slice A nq c)].toArray w (Ret (T := Unit) [] w (fun _ => True) (fun _ => (.agg ((ptag key (catp Q)).map b8).toArray)) (fun _ => [])) := by
 have hcl := clampb_len key
 have hpl := ptag_len key (catp Q)
 have hel := fun f g => eib_len [f, g] 2
 have hc8 : (List.take 8 (List.drop 8 (clampb key))).length = 8 := by rw [List.length_take, List.length_drop, hcl]; rfl
 have hk8 : (List.take 16 (List.drop 16 key)).length = 16 := by simp; omega
 have hk9 : (List.take 8 (List.drop 24 key)).length = 8 := by simp; omega
 have hF : Wid Fence.wide := wid_wide
 refine enter_m (c := _) Try.func18 rfl [] [(.agg (key.map b8).toArray), (.slice A nq c)] [.rd A 1 nq c (Q.map Pt.sl), .all Q] (by rw [Try.ntmps18]; rfl) (own_rds hO rfl) ?_
 rw [Try.ntmps18]
 refine T_re [(0, (.agg (key.map b8).toArray)), (1, (.slice A nq c))] (sc rfl (sc rfl sn)) ?_
 refine T_he [0, 1] [.rd A 1 nq c (Q.map Pt.sl), .all Q] ⟨by decide, rfl⟩ ?_
 refine Tsr hF rfl ?_
 refine L_op rfl (op_box (zs := (key.map b8)) rfl rfl rfl rfl rfl (fun g1 => ?_))
 refine L_op rfl (op_alloc (z := .agg ((List.replicate 16 0#8).map b8).toArray) (zs := ((List.replicate 16 0#8).map b8)) kr rfl rfl rfl rfl (fun g2 => ?_))
 refine L_nil ?_
 refine Tsr hF rfl ?_
 refine lq rfl (ld_agg (ds := (key.map b8)) 1 rfl agg_all Try.underlying22 rfl (fwz (n := 32) kr sd) rfl rfl) rfl rfl ?_
 refine L_op rfl (op_cn (fun w hw => clamp_f key w (hok_nil w) sd) (enters_of Try.func20 kr rfl) rfl rfl rfl rfl rfl (fun t3 q4 => ?_))
 refine L_op rfl (op_alloc (z := .agg ((List.replicate 16 0#8).map b8).toArray) (zs := ((List.replicate 16 0#8).map b8)) kr rfl rfl rfl rfl (fun g5 => ?_))
 refine L_op rfl (op_sto (n := 16) (vs := ((clampb key).map b8)) 0 rfl rfl kr (all8_one _) kr sd rfl rfl rfl rfl ?_)
 refine L_nil ?_
 refine T_seq ?_
 refine T_regD [.blk g5 27 ((clampb key).map b8), .blk g2 27 ((List.replicate 16 0#8).map b8), .blk g1 22 (key.map b8), .rd A 1 nq c (Q.map Pt.sl), .all Q] 7 7 #[false, false, false, false, false, false, false] hF kr kr ?_
 refine D_pure (i := 0) [0, 1, 2, 3, 4] rfl kr rfl (pr_sla (l := 0) (u := 16) (m := 0) sd sd sd rfl Try.underlying27 (z := 1) kr rfl rfl rfl rfl) (.inr rfl) rfl rfl ?_
 refine D_pure (i := 2) [0, 1, 2, 3, 4] rfl kr rfl (pr_sla (l := 8) (u := 16) (m := 8) sd sd sd rfl Try.underlying27 (z := 1) kr rfl rfl ⟨_, rfl⟩ rfl) (.inr rfl) rfl rfl ?_
 refine D_join (T := Nat) (fun _ => True) (fun g10 => [(1, (.slice A nq c)), (2, (.pointer (some ⟨g1, 0, none⟩))), (4, (.pointer (some ⟨g2, 0, none⟩))), (6, (.pointer (some ⟨g10, 0, none⟩)))]) (fun g10 => [.blk g10 51 [(b64 (low (clampb key) 8)), (b64 (low (List.take 8 (List.drop 8 (clampb key))) 8))], .blk g5 27 ((clampb key).map b8), .blk g2 27 ((List.replicate 16 0#8).map b8), .blk g1 22 (key.map b8), .rd A 1 nq c (Q.map Pt.sl), .all Q]) ?_ ?_
 ·
  refine D_all [1, 5] kr (by simp) ⟨⟨_, rfl, rfl, ?_⟩, ⟨_, rfl, rfl, ?_⟩, trivial⟩
  ·
   refine id (op_cn (fun w hw => low_f (clampb key) 8 (some ⟨g5, 0, none⟩) 16 16 w (hok_cons ((src_full (z := 1) 0 rfl sd sd sd) w hw) (hok_nil w)) sd sd sd) (enters_of Try.func32 kr rfl) rfl rfl rfl rfl rfl (fun t11 q12 => ?_))
   refine D_on [0, 1, 2, 3, 4] rfl ?_
   refine D_all [3, 5] kr (by simp) ⟨⟨_, rfl, rfl, ?_⟩, ⟨_, rfl, rfl, ?_⟩, trivial⟩
   ·
    refine id (op_cn (fun w hw => low_f (List.take 8 (List.drop 8 (clampb key))) 8 (some ⟨g5, 8, none⟩) 8 8 w (hok_cons ((src_sub 0 rfl sd sd sd) w hw) (hok_nil w)) sd sd sd) (enters_of Try.func32 kr rfl) rfl rfl rfl rfl rfl (fun t13 q14 => ?_))
    refine D_on [0, 1, 2, 3, 4] rfl ?_
    refine D_pure (i := 4) [0, 1, 2, 3, 4] rfl kr rfl (pr_build (qs := [(0, (b64 (low (clampb key) 8))), (1, (b64 (low (List.take 8 (List.drop 8 (clampb key))) 8)))]) (v := .agg [(b64 (low (clampb key) 8)), (b64 (low (List.take 8 (List.drop 8 (clampb key))) 8))].toArray) (fun _ => by kernel_rfl) rfl rfl) (.inr rfl) rfl rfl ?_
    refine D_one 5 _ rfl kr rfl (op_alloc (z := .agg [(b64 (0#64)), (b64 (0#64))].toArray) (zs := [(b64 (0#64)), (b64 (0#64))]) kr rfl rfl rfl rfl (fun g15 => ?_))
    refine D_on [1, 2, 3, 4, 5] rfl ?_
    refine D_one 6 _ rfl kr rfl (op_sto (n := 2) (vs := [(b64 (low (clampb key) 8)), (b64 (low (List.take 8 (List.drop 8 (clampb key))) 8))]) 0 rfl rfl kr (by simp [Value.oneCell']) kr kr rfl rfl rfl rfl ?_)
    refine D_on [1, 2, 3, 4, 5] rfl ?_
    refine D_done kr ?_
    exact T_meet g15 trivial (sc rfl (sc rfl (sc rfl (sc rfl sn)))) [0, 1, 2, 3, 4, 5] ⟨by decide, rfl⟩
   ·
    refine id (op_alloc (z := .agg [(b64 (0#64)), (b64 (0#64))].toArray) (zs := [(b64 (0#64)), (b64 (0#64))]) kr rfl rfl rfl rfl (fun g16 => ?_))
    refine D_on [1, 2, 3, 4, 5] rfl ?_
    refine D_one 3 _ rfl kr rfl (op_cn (fun w hw => low_f (List.take 8 (List.drop 8 (clampb key))) 8 (some ⟨g5, 8, none⟩) 8 8 w (hok_cons ((src_sub 1 rfl sd sd sd) w hw) (hok_nil w)) sd sd sd) (enters_of Try.func32 kr rfl) rfl rfl rfl rfl rfl (fun t17 q18 => ?_))
    refine D_on [1, 2, 3, 4, 5] rfl ?_
    refine D_pure (i := 4) [1, 2, 3, 4, 5] rfl kr rfl (pr_build (qs := [(0, (b64 (low (clampb key) 8))), (1, (b64 (low (List.take 8 (List.drop 8 (clampb key))) 8)))]) (v := .agg [(b64 (low (clampb key) 8)), (b64 (low (List.take 8 (List.drop 8 (clampb key))) 8))].toArray) (fun _ => by kernel_rfl) rfl rfl) (.inr rfl) rfl rfl ?_
    refine D_one 6 _ rfl kr rfl (op_sto (n := 2) (vs := [(b64 (low (clampb key) 8)), (b64 (low (List.take 8 (List.drop 8 (clampb key))) 8))]) 0 rfl rfl kr (by simp [Value.oneCell']) kr kr rfl rfl rfl rfl ?_)
    refine D_on [1, 2, 3, 4, 5] rfl ?_
    refine D_done kr ?_
    exact T_meet g16 trivial (sc rfl (sc rfl (sc rfl (sc rfl sn)))) [0, 1, 2, 3, 4, 5] ⟨by decide, rfl⟩
  ·
   refine id (op_alloc (z := .agg [(b64 (0#64)), (b64 (0#64))].toArray) (zs := [(b64 (0#64)), (b64 (0#64))]) kr rfl rfl rfl rfl (fun g19 => ?_))
   refine D_on [1, 2, 3, 4, 5] rfl ?_
   refine D_one 1 _ rfl kr rfl (op_cn (fun w hw => low_f (clampb key) 8 (some ⟨g5, 0, none⟩) 16 16 w (hok_cons ((src_full (z := 1) 1 rfl sd sd sd) w hw) (hok_nil w)) sd sd sd) (enters_of Try.func32 kr rfl) rfl rfl rfl rfl rfl (fun t20 q21 => ?_))
   refine D_on [1, 2, 3, 4, 5] rfl ?_
   refine D_one 3 _ rfl kr rfl (op_cn (fun w hw => low_f (List.take 8 (List.drop 8 (clampb key))) 8 (some ⟨g5, 8, none⟩) 8 8 w (hok_cons ((src_sub 1 rfl sd sd sd) w hw) (hok_nil w)) sd sd sd) (enters_of Try.func32 kr rfl) rfl rfl rfl rfl rfl (fun t22 q23 => ?_))
   refine D_on [1, 2, 3, 4, 5] rfl ?_
   refine D_pure (i := 4) [1, 2, 3, 4, 5] rfl kr rfl (pr_build (qs := [(0, (b64 (low (clampb key) 8))), (1, (b64 (low (List.take 8 (List.drop 8 (clampb key))) 8)))]) (v := .agg [(b64 (low (clampb key) 8)), (b64 (low (List.take 8 (List.drop 8 (clampb key))) 8))].toArray) (fun _ => by kernel_rfl) rfl rfl) (.inr rfl) rfl rfl ?_
   refine D_one 6 _ rfl kr rfl (op_sto (n := 2) (vs := [(b64 (low (clampb key) 8)), (b64 (low (List.take 8 (List.drop 8 (clampb key))) 8))]) 0 rfl rfl kr (by simp [Value.oneCell']) kr kr rfl rfl rfl rfl ?_)
   refine D_on [1, 2, 3, 4, 5] rfl ?_
   refine D_done kr ?_
   exact T_meet g19 trivial (sc rfl (sc rfl (sc rfl (sc rfl sn)))) [0, 1, 2, 3, 4, 5] ⟨by decide, rfl⟩
 ·
  rintro g10 -
  refine T_re [(1, (.slice A nq c)), (2, (.pointer (some ⟨g1, 0, none⟩))), (4, (.pointer (some ⟨g2, 0, none⟩))), (6, (.pointer (some ⟨g10, 0, none⟩)))] (sc rfl (sc rfl (sc rfl (sc rfl sn)))) ?_
  refine T_he [0, 1, 2, 3, 4, 5] [.blk g10 51 [(b64 (low (clampb key) 8)), (b64 (low (List.take 8 (List.drop 8 (clampb key))) 8))], .blk g5 27 ((clampb key).map b8), .blk g2 27 ((List.replicate 16 0#8).map b8), .blk g1 22 (key.map b8), .rd A 1 nq c (Q.map Pt.sl), .all Q] ⟨by decide, rfl⟩ ?_
  refine Tsr hF rfl ?_
  refine L_op rfl (op_alloc (z := .agg [(b64 (0#64)), (b64 (0#64)), (b64 (0#64))].toArray) (zs := [(b64 (0#64)), (b64 (0#64)), (b64 (0#64))]) kr rfl rfl rfl rfl (fun g24 => ?_))
  refine L_nil ?_
  refine T_seq ?_
  refine Tsr hF rfl ?_
  refine lm rfl rfl rfl rfl rfl ?_
  refine L_op rfl (op_cn (fun w hw => concat_f Q A nq c w (hok_cons ((src_rd 5 rfl) w hw) (hok_cons (hw _ (List.mem_of_getElem? (i := 6) rfl)) (hok_nil w))) sd sd sd) (enters_of Try.func34 kr rfl) rfl rfl rfl rfl rfl (fun t25 q26 => ?_))
  obtain ⟨B27, d28⟩ := t25
  refine L_op rfl (op_cn (fun w hw => chunk_f B27 ((catp Q).length) d28 16 w (hok_nil w) sd) (enters_of Try.func33 kr rfl) rfl rfl rfl rfl rfl (fun t29 q30 => ?_))
  obtain ⟨g1_31, g2_32⟩ := t29
  refine L_nil ?_
  refine T_block ?_
  refine T_tord 0 rfl ?_
  refine T_tord 1 rfl ?_
  refine T_old 2 rfl ?_
  refine T_tord 0 rfl ?_
  refine T_range (Θ := Option Addr) (T := BitVec 64 × BitVec 64 × BitVec 64) (Tx := Unit) (cap := [(.pointer (some ⟨g1_31, 0, none⟩)), (.pointer (some ⟨g2_32, 0, none⟩))]) (ps := [20]) (chunk_seq (catp Q) 16 B27 ((catp Q).length) d28 g1_31 g2_32 sd sd sd sd) rfl (enters_of Try.func48 kr rfl) (fun k ⟨a0, a1, a2⟩ => v3 a0 a1 a2 % polyP = pacc (pr key) (catp Q) k ∧ v3 a0 a1 a2 < 1573805947009340393518107559371927977984) (fun k ⟨a0, a1, a2⟩ => [.rd B27 1 ((catp Q).length) d28 ((catp Q).map b8), .rd (some ⟨g2_32, 0, none⟩) 1 1 1 [(.int .i64 ((16 : Nat) : Int))], .rd (some ⟨g1_31, 0, none⟩) 1 1 1 [(.slice B27 ((catp Q).length) d28)], .blk g24 53 [(b64 a0), (b64 a1), (b64 a2)], .blk g10 51 [(b64 (low (clampb key) 8)), (b64 (low (List.take 8 (List.drop 8 (clampb key))) 8))], .blk g5 27 ((clampb key).map b8), .blk g2 27 ((List.replicate 16 0#8).map b8), .blk g1 22 (key.map b8), .rd A 1 nq c (Q.map Pt.sl), .all Q]) (fun _ => False) (fun _ => []) 0 (0#64, 0#64, 0#64) (⟨by rw [v3_def, pacc_zero]; rfl, by rw [v3_def]; decide⟩) [0, 1, 2, 3, 4, 5, 6, 7, 8, 9] ⟨by decide, rfl⟩ [2, 1, 0] rfl rfl (fun _ _ => rfl) (fun _ => rfl) (fun _ _ => rfl) (fun _ _ => rfl) rfl (fun _ => trivial) ?_ ?_ ?_
  ·
   intro C2 w2 lo2 rs2 l D m k t th rc hrec hk hp
   obtain ⟨a0, a1, a2⟩ := t
   obtain ⟨B, rfl⟩ : ∃ x, x = th := ⟨_, rfl⟩
   have hp : v3 a0 a1 a2 % polyP = pacc (pr key) (catp Q) k ∧ v3 a0 a1 a2 < 1573805947009340393518107559371927977984 := hp
   have hk : k < (((catp Q).length) + 16 - 1) / 16 := hk
   have hF : Wid (Fence.wide.inRound l) := wid_round l
   refine T_re [(6, (.pointer (some ⟨g10, 0, none⟩))), (7, (.pointer (some ⟨g24, 0, none⟩))), (20, (.slice B (min 16 (((catp Q).length) - 16 * k)) (min 16 (((catp Q).length) - 16 * k))))] (sc rfl (sc rfl (sc rfl sn))) ?_
   refine T_he [0, 1, 2, 3, 4, 5, 6, 7, 8, 9, 10, 11, 12] [.rd B 1 (min 16 (((catp Q).length) - 16 * k)) (min 16 (((catp Q).length) - 16 * k)) ((List.take (min 16 (((catp Q).length) - 16 * k)) (List.drop (16 * k) (catp Q))).map b8), .obj l (.loop rc), .obj D (.deferred (some [])), .rd B27 1 ((catp Q).length) d28 ((catp Q).map b8), .rd (some ⟨g2_32, 0, none⟩) 1 1 1 [(.int .i64 ((16 : Nat) : Int))], .rd (some ⟨g1_31, 0, none⟩) 1 1 1 [(.slice B27 ((catp Q).length) d28)], .blk g24 53 [(b64 a0), (b64 a1), (b64 a2)], .blk g10 51 [(b64 (low (clampb key) 8)), (b64 (low (List.take 8 (List.drop 8 (clampb key))) 8))], .blk g5 27 ((clampb key).map b8), .blk g2 27 ((List.replicate 16 0#8).map b8), .blk g1 22 (key.map b8), .rd A 1 nq c (Q.map Pt.sl), .all Q] ⟨by decide, rfl⟩ ?_
   refine T_reg hF rfl ?_
   refine la rfl rfl rfl rfl rfl ?_
   refine L_nil ?_
   refine T_begun 1 rfl hrec ?_
   refine T_block ?_
   refine T_regD [.obj l (.loop { rc with state := .busy }), .rd B 1 (min 16 (((catp Q).length) - 16 * k)) (min 16 (((catp Q).length) - 16 * k)) ((List.take (min 16 (((catp Q).length) - 16 * k)) (List.drop (16 * k) (catp Q))).map b8), .obj D (.deferred (some [])), .rd B27 1 ((catp Q).length) d28 ((catp Q).map b8), .rd (some ⟨g2_32, 0, none⟩) 1 1 1 [(.int .i64 ((16 : Nat) : Int))], .rd (some ⟨g1_31, 0, none⟩) 1 1 1 [(.slice B27 ((catp Q).length) d28)], .blk g24 53 [(b64 a0), (b64 a1), (b64 a2)], .blk g10 51 [(b64 (low (clampb key) 8)), (b64 (low (List.take 8 (List.drop 8 (clampb key))) 8))], .blk g5 27 ((clampb key).map b8), .blk g2 27 ((List.replicate 16 0#8).map b8), .blk g1 22 (key.map b8), .rd A 1 nq c (Q.map Pt.sl), .all Q] 9 10 #[false, false, false, false, false, false, false, false, false, false] hF kr kr ?_
   refine D_pure (i := 1) [0, 1, 2, 3, 4, 5, 6, 7, 8, 9, 10, 11, 12] rfl kr rfl (pr_move rfl rfl) (.inr rfl) rfl rfl ?_
   refine D_take (i := 0) [0, 1, 2, 3, 4, 5, 6, 7, 8, 9, 10, 11, 12] rfl kr rfl (ld_agg (ds := [(b64 a0), (b64 a1), (b64 a2)]) 6 rfl agg_all Try.underlying53 rfl kr rfl rfl) rfl rfl rfl ?_
   refine D_take (i := 7) [0, 1, 2, 3, 4, 5, 6, 7, 8, 9, 10, 11, 12] rfl kr rfl (ld_agg (ds := [(b64 (low (clampb key) 8)), (b64 (low (List.take 8 (List.drop 8 (clampb key))) 8))]) 7 rfl agg_all Try.underlying51 rfl kr rfl rfl) rfl rfl rfl ?_
   refine D_one 2 _ rfl kr rfl (op_cn (fun w hw => piece_f (List.take (min 16 (((catp Q).length) - 16 * k)) (List.drop (16 * k) (catp Q))) B (min 16 (((catp Q).length) - 16 * k)) (min 16 (((catp Q).length) - 16 * k)) w (hok_cons ((src_rd 1 rfl) w hw) (hok_nil w)) (by first | assumption | omega | (simp; done) | (simp; omega)) sd) (enters_of Try.func36 kr rfl) rfl rfl rfl rfl rfl (fun t33 q34 => ?_))
   obtain ⟨x35, y36, z37⟩ := t33
   have q34 : v3 x35 y36 z37 = pv (List.take (min 16 (((catp Q).length) - 16 * k)) (List.drop (16 * k) (catp Q))) ∧ z37.toNat ≤ 1 := q34
   refine D_on [0, 1, 2, 3, 4, 5, 6, 7, 8, 9, 10, 11, 12] rfl ?_
   refine D_pure (i := 3) [0, 1, 2, 3, 4, 5, 6, 7, 8, 9, 10, 11, 12] rfl kr rfl (pr_ext (vs := [(b64 x35), (b64 y36), (b64 z37)]) rfl rfl rfl) (.inr rfl) rfl rfl ?_
   refine D_pure (i := 4) [0, 1, 2, 3, 4, 5, 6, 7, 8, 9, 10, 11, 12] rfl kr rfl (pr_ext (vs := [(b64 x35), (b64 y36), (b64 z37)]) rfl rfl rfl) (.inr rfl) rfl rfl ?_
   refine D_pure (i := 5) [0, 1, 2, 3, 4, 5, 6, 7, 8, 9, 10, 11, 12] rfl kr rfl (pr_ext (vs := [(b64 x35), (b64 y36), (b64 z37)]) rfl rfl rfl) (.inr rfl) rfl rfl ?_
   refine D_one 6 _ rfl kr rfl (op_cn (fun w hw => plus_f a0 a1 a2 x35 y36 z37 w (hok_nil w) (side_c hp.2 (by assumption))) (enters_of Try.func35 kr rfl) rfl rfl rfl rfl rfl (fun t38 q39 => ?_))
   obtain ⟨b0_40, b1_41, b2_42⟩ := t38
   have q39 : v3 b0_40 b1_41 b2_42 = v3 a0 a1 a2 + v3 x35 y36 z37 := q39
   refine D_on [0, 1, 2, 3, 4, 5, 6, 7, 8, 9, 10, 11, 12] rfl ?_
   refine D_one 8 _ rfl kr rfl (op_cn (fun w hw => times_f b0_40 b1_41 b2_42 (low (clampb key) 8) (low (List.take 8 (List.drop 8 (clampb key))) 8) w (hok_nil w) (side_d hp.2 (by assumption) (by assumption) (by rw [blk_min _ _ k rfl]; exact pblk_len_le _ _)) (pr_limbs_lt key)) (enters_of Try.func37 kr rfl) rfl rfl rfl rfl rfl (fun t43 q44 => ?_))
   obtain ⟨b0_45, b1_46, b2_47⟩ := t43
   have q44 : v3 b0_45 b1_46 b2_47 % polyP = v3 b0_40 b1_41 b2_42 * ((low (clampb key) 8).toNat + 18446744073709551616 * (low (List.take 8 (List.drop 8 (clampb key))) 8).toNat) % polyP ∧ v3 b0_45 b1_46 b2_47 < 1573805947009340393518107559371927977984 := q44
   refine D_on [0, 1, 2, 3, 4, 5, 6, 7, 8, 9, 10, 11, 12] rfl ?_
   refine D_one 9 _ rfl kr rfl (op_sto (n := 3) (vs := [(b64 b0_45), (b64 b1_46), (b64 b2_47)]) 6 rfl rfl kr (by simp [Value.oneCell']) kr kr rfl rfl rfl rfl ?_)
   refine D_past kr ?_
   refine D_done kr ?_
   exact T_on (b0_45, b1_46, b2_47) (tag_next rfl (pr_limbs key) (by assumption) (by assumption) (by assumption) hp) [1, 3, 4, 5, 6, 0, 7, 8, 9, 10, 11, 12] ⟨by decide, rfl⟩
  ·
   intro D t hp
   obtain ⟨a0, a1, a2⟩ := t
   have hp : v3 a0 a1 a2 % polyP = pacc (pr key) (catp Q) ((((catp Q).length) + 16 - 1) / 16) ∧ v3 a0 a1 a2 < 1573805947009340393518107559371927977984 := hp
   refine T_re [(2, (.pointer (some ⟨g1, 0, none⟩))), (4, (.pointer (some ⟨g2, 0, none⟩))), (7, (.pointer (some ⟨g24, 0, none⟩)))] (sc rfl (sc rfl (sc rfl sn))) ?_
   refine T_he [0, 1, 2, 3, 4, 5, 6, 7, 8, 9, 10] [.obj D (.deferred (some [])), .rd B27 1 ((catp Q).length) d28 ((catp Q).map b8), .rd (some ⟨g2_32, 0, none⟩) 1 1 1 [(.int .i64 ((16 : Nat) : Int))], .rd (some ⟨g1_31, 0, none⟩) 1 1 1 [(.slice B27 ((catp Q).length) d28)], .blk g24 53 [(b64 a0), (b64 a1), (b64 a2)], .blk g10 51 [(b64 (low (clampb key) 8)), (b64 (low (List.take 8 (List.drop 8 (clampb key))) 8))], .blk g5 27 ((clampb key).map b8), .blk g2 27 ((List.replicate 16 0#8).map b8), .blk g1 22 (key.map b8), .rd A 1 nq c (Q.map Pt.sl), .all Q] ⟨by decide, rfl⟩ ?_
   refine T_seq ?_
   refine Tsr hF rfl ?_
   refine lm rfl rfl rfl rfl rfl ?_
   refine L_nil ?_
   refine T_block ?_
   refine T_loop (T := Nat × BitVec 64 × BitVec 64 × BitVec 64) (fun ⟨i, e0, e1, e2⟩ => Lst (pacc (pr key) (catp Q) (((catp Q).length + 16 - 1) / 16)) i e0 e1 e2) (fun ⟨i, e0, e1, e2⟩ => [(2, (.pointer (some ⟨g1, 0, none⟩))), (4, (.pointer (some ⟨g2, 0, none⟩))), (7, (.pointer (some ⟨g24, 0, none⟩))), (30, (.int .i64 ((i : Nat) : Int)))]) (fun ⟨i, e0, e1, e2⟩ => [.obj D (.deferred (some [])), .rd B27 1 ((catp Q).length) d28 ((catp Q).map b8), .rd (some ⟨g2_32, 0, none⟩) 1 1 1 [(.int .i64 ((16 : Nat) : Int))], .rd (some ⟨g1_31, 0, none⟩) 1 1 1 [(.slice B27 ((catp Q).length) d28)], .blk g24 53 [(b64 e0), (b64 e1), (b64 e2)], .blk g10 51 [(b64 (low (clampb key) 8)), (b64 (low (List.take 8 (List.drop 8 (clampb key))) 8))], .blk g5 27 ((clampb key).map b8), .blk g2 27 ((List.replicate 16 0#8).map b8), .blk g1 22 (key.map b8), .rd A 1 nq c (Q.map Pt.sl), .all Q]) (fun ⟨i, e0, e1, e2⟩ => 2 - i) (0, a0, a1, a2) (lst_zero hp) (sc rfl (sc rfl (sc rfl (sc rfl sn)))) [0, 1, 2, 3, 4, 5, 6, 7, 8, 9, 10] ⟨by decide, rfl⟩ ?_
   rintro ⟨i, e0, e1, e2⟩ hp
   have hp : Lst (pacc (pr key) (catp Q) (((catp Q).length + 16 - 1) / 16)) i e0 e1 e2 := hp
   have hi2 : i ≤ 2 := by unfold Lst at hp; exact hp.1
   refine T_re [(2, (.pointer (some ⟨g1, 0, none⟩))), (4, (.pointer (some ⟨g2, 0, none⟩))), (7, (.pointer (some ⟨g24, 0, none⟩))), (30, (.int .i64 ((i : Nat) : Int)))] (sc rfl (sc rfl (sc rfl (sc rfl sn)))) ?_
   refine T_he [0, 1, 2, 3, 4, 5, 6, 7, 8, 9, 10] [.obj D (.deferred (some [])), .rd B27 1 ((catp Q).length) d28 ((catp Q).map b8), .rd (some ⟨g2_32, 0, none⟩) 1 1 1 [(.int .i64 ((16 : Nat) : Int))], .rd (some ⟨g1_31, 0, none⟩) 1 1 1 [(.slice B27 ((catp Q).length) d28)], .blk g24 53 [(b64 e0), (b64 e1), (b64 e2)], .blk g10 51 [(b64 (low (clampb key) 8)), (b64 (low (List.take 8 (List.drop 8 (clampb key))) 8))], .blk g5 27 ((clampb key).map b8), .blk g2 27 ((List.replicate 16 0#8).map b8), .blk g1 22 (key.map b8), .rd A 1 nq c (Q.map Pt.sl), .all Q] ⟨by decide, rfl⟩ ?_
   refine Tsr hF rfl ?_
   refine lo rfl (pr_cmp (bo := .lss) (nc_lt (a := i) (b := 2)) rfl rfl rfl rfl) rfl rfl ?_
   refine L_nil ?_
   refine T_seq ?_
   refine T_cond (decide (i < 2)) rfl (fun hc_48 => ?_) (fun hc_48 => ?_)
   ·
    have hc_48 := of_decide_eq_true hc_48
    refine T_skip ?_
    refine T_seq ?_
    refine T_block ?_
    refine Tsr hF rfl ?_
    refine lq rfl (ld_agg (ds := [(b64 e0), (b64 e1), (b64 e2)]) 4 rfl agg_all Try.underlying53 rfl kr rfl rfl) rfl rfl ?_
    refine L_op rfl (op_cn (fun w hw => plus_f e0 e1 e2 (5#64) (0#64) (0#64) w (hok_nil w) (side_e (lst_lt hp))) (enters_of Try.func35 kr rfl) rfl rfl rfl rfl rfl (fun t49 q50 => ?_))
    obtain ⟨b0_51, b1_52, b2_53⟩ := t49
    have q50 : v3 b0_51 b1_52 b2_53 = v3 e0 e1 e2 + v3 (5#64) (0#64) (0#64) := q50
    refine L_op rfl (op_alloc (z := .agg [(b64 (0#64)), (b64 (0#64)), (b64 (0#64))].toArray) (zs := [(b64 (0#64)), (b64 (0#64)), (b64 (0#64))]) kr rfl rfl rfl rfl (fun g54 => ?_))
    refine L_op rfl (op_sto (n := 3) (vs := [(b64 b0_51), (b64 b1_52), (b64 b2_53)]) 0 rfl rfl kr (by simp [Value.oneCell']) kr kr rfl rfl rfl rfl ?_)
    refine L_nil ?_
    refine Tsr hF rfl ?_
    refine lo rfl (pr_ixa (j := 2) (m' := 2) sd (by omega) Try.underlying53 (z := 1) kr rfl rfl rfl) rfl rfl ?_
    refine lq rfl (ld_blk 0 rfl rfl Try.underlying49 rfl rfl rfl) rfl rfl ?_
    refine lo rfl (pr_cmp (bo := .geq) (cm_le64 (4#64) b2_53) rfl rfl rfl rfl) rfl rfl ?_
    refine L_nil ?_
    refine T_cond (decide (4#64 ≤ b2_53)) rfl (fun hc_55 => ?_) (fun hc_55 => ?_)
    ·
     have hc_55 := of_decide_eq_true hc_55
     refine T_reg hF rfl ?_
     refine lo rfl (pr_ixa (j := 0) (m' := 0) sd (by omega) Try.underlying53 (z := 1) kr rfl rfl rfl) rfl rfl ?_
     refine lq rfl (ld_blk 0 rfl rfl Try.underlying49 rfl rfl rfl) rfl rfl ?_
     refine lo rfl (pr_ixa (j := 1) (m' := 1) sd (by omega) Try.underlying53 (z := 1) kr rfl rfl rfl) rfl rfl ?_
     refine lq rfl (ld_blk 0 rfl rfl Try.underlying49 rfl rfl rfl) rfl rfl ?_
     refine lo rfl (pr_ixa (j := 2) (m' := 2) sd (by omega) Try.underlying53 (z := 1) kr rfl rfl rfl) rfl rfl ?_
     refine lq rfl (ld_blk 0 rfl rfl Try.underlying49 rfl rfl rfl) rfl rfl ?_
     refine lo rfl (pr_sub (sub64 _ (4#64)) rfl rfl rfl) rfl rfl ?_
     refine lo rfl (pr_build (qs := [(0, (b64 b0_51)), (1, (b64 b1_52)), (2, (b64 (b2_53 - 4#64)))]) (v := .agg [(b64 b0_51), (b64 b1_52), (b64 (b2_53 - 4#64))].toArray) (fun _ => by kernel_rfl) rfl rfl) rfl rfl ?_
     refine L_op rfl (op_sto (n := 3) (vs := [(b64 b0_51), (b64 b1_52), (b64 (b2_53 - 4#64))]) 5 rfl rfl kr (by simp [Value.oneCell']) kr kr rfl rfl rfl rfl ?_)
     refine L_nil ?_
     refine T_reg hF rfl ?_
     refine lo rfl (pr_add (na_i64 (a := i) (b := 1) sd) rfl rfl rfl) rfl rfl ?_
     refine lm rfl rfl rfl rfl rfl ?_
     refine L_nil ?_
     exact T_again (i + 1, b0_51, b1_52, (b2_53 - 4#64)) (by first | exact lst_hi hp (by assumption) (by assumption) (by assumption) | exact lst_lo hp (by assumption) (by assumption) (by assumption)) (show 2 - (i + 1) < 2 - i from Nat.sub_lt_sub_left (by assumption) (Nat.lt_succ_self i)) (sc rfl (sc rfl (sc rfl (sc rfl sn)))) [2, 3, 4, 5, 0, 6, 7, 8, 9, 10, 11] ⟨by decide, rfl⟩
    ·
     have hc_55 := of_decide_eq_false hc_55
     refine T_skip ?_
     refine T_reg hF rfl ?_
     refine lo rfl (pr_add (na_i64 (a := i) (b := 1) sd) rfl rfl rfl) rfl rfl ?_
     refine lm rfl rfl rfl rfl rfl ?_
     refine L_nil ?_
     exact T_again (i + 1, e0, e1, e2) (by first | exact lst_hi hp (by assumption) (by assumption) (by assumption) | exact lst_lo hp (by assumption) (by assumption) (by assumption)) (show 2 - (i + 1) < 2 - i from Nat.sub_lt_sub_left (by assumption) (Nat.lt_succ_self i)) (sc rfl (sc rfl (sc rfl (sc rfl sn)))) [1, 2, 3, 4, 5, 6, 7, 8, 9, 10, 11] ⟨by decide, rfl⟩
   ·
    have hc_48 := of_decide_eq_false hc_48
    refine T_exit rfl ?_
    refine T_seq ?_
    refine T_regD [.obj D (.deferred (some [])), .rd B27 1 ((catp Q).length) d28 ((catp Q).map b8), .rd (some ⟨g2_32, 0, none⟩) 1 1 1 [(.int .i64 ((16 : Nat) : Int))], .rd (some ⟨g1_31, 0, none⟩) 1 1 1 [(.slice B27 ((catp Q).length) d28)], .blk g24 53 [(b64 e0), (b64 e1), (b64 e2)], .blk g10 51 [(b64 (low (clampb key) 8)), (b64 (low (List.take 8 (List.drop 8 (clampb key))) 8))], .blk g5 27 ((clampb key).map b8), .blk g2 27 ((List.replicate 16 0#8).map b8), .blk g1 22 (key.map b8), .rd A 1 nq c (Q.map Pt.sl), .all Q] 6 7 #[false, false, false, false, false, false, false] hF kr kr ?_
    refine D_pure (i := 1) [0, 1, 2, 3, 4, 5, 6, 7, 8, 9, 10] rfl kr rfl (pr_sla (l := 16) (u := 32) (m := 16) sd sd sd rfl Try.underlying22 (z := 1) kr rfl rfl ⟨_, rfl⟩ rfl) (.inr rfl) rfl rfl ?_
    refine D_pure (i := 3) [0, 1, 2, 3, 4, 5, 6, 7, 8, 9, 10] rfl kr rfl (pr_sla (l := 24) (u := 32) (m := 24) sd sd sd rfl Try.underlying22 (z := 1) kr rfl rfl ⟨_, rfl⟩ rfl) (.inr rfl) rfl rfl ?_
    refine D_take (i := 0) [0, 1, 2, 3, 4, 5, 6, 7, 8, 9, 10] rfl kr rfl (ld_agg (ds := [(b64 e0), (b64 e1), (b64 e2)]) 4 rfl agg_all Try.underlying53 rfl kr rfl rfl) rfl rfl rfl ?_
    refine D_one 2 _ rfl kr rfl (op_cn (fun w hw => low_f (List.take 16 (List.drop 16 key)) 8 (some ⟨g1, 16, none⟩) 16 16 w (hok_cons ((src_sub 8 rfl sd sd sd) w hw) (hok_nil w)) sd sd sd) (enters_of Try.func32 kr rfl) rfl rfl rfl rfl rfl (fun t56 q57 => ?_))
    refine D_on [0, 1, 2, 3, 4, 5, 6, 7, 8, 9, 10] rfl ?_
    refine D_one 4 _ rfl kr rfl (op_cn (fun w hw => low_f (List.take 8 (List.drop 24 key)) 8 (some ⟨g1, 24, none⟩) 8 8 w (hok_cons ((src_sub 8 rfl sd sd sd) w hw) (hok_nil w)) sd sd sd) (enters_of Try.func32 kr rfl) rfl rfl rfl rfl rfl (fun t58 q59 => ?_))
    refine D_on [0, 1, 2, 3, 4, 5, 6, 7, 8, 9, 10] rfl ?_
    refine D_one 5 _ rfl kr rfl (op_cn (fun w hw => plus_f e0 e1 e2 (low (List.take 16 (List.drop 16 key)) 8) (low (List.take 8 (List.drop 24 key)) 8) (0#64) w (hok_nil w) (side_e (lst_lt hp))) (enters_of Try.func35 kr rfl) rfl rfl rfl rfl rfl (fun t60 q61 => ?_))
    obtain ⟨b0_62, b1_63, b2_64⟩ := t60
    have q61 : v3 b0_62 b1_63 b2_64 = v3 e0 e1 e2 + v3 (low (List.take 16 (List.drop 16 key)) 8) (low (List.take 8 (List.drop 24 key)) 8) (0#64) := q61
    refine D_on [0, 1, 2, 3, 4, 5, 6, 7, 8, 9, 10] rfl ?_
    refine D_one 6 _ rfl kr rfl (op_sto (n := 3) (vs := [(b64 b0_62), (b64 b1_63), (b64 b2_64)]) 4 rfl rfl kr (by simp [Value.oneCell']) kr kr rfl rfl rfl rfl ?_)
    refine D_past kr ?_
    refine D_done kr ?_
    refine Tsr hF rfl ?_
    refine lo rfl (pr_ixa (j := 0) (m' := 0) sd (by omega) Try.underlying53 (z := 1) kr rfl rfl rfl) rfl rfl ?_
    refine lq rfl (ld_blk 0 rfl rfl Try.underlying49 rfl rfl rfl) rfl rfl ?_
    refine lo rfl (pr_ixa (j := 1) (m' := 1) sd (by omega) Try.underlying53 (z := 1) kr rfl rfl rfl) rfl rfl ?_
    refine lq rfl (ld_blk 0 rfl rfl Try.underlying49 rfl rfl rfl) rfl rfl ?_
    refine L_op rfl (op_bslice (e := 49) (zs := [(b64 b0_62), (b64 b1_63)]) (qs := [(0, (b64 b0_62)), (1, (b64 b1_63))]) (fun _ => by kernel_rfl) rfl rfl rfl rfl (fun g65 => ?_))
    refine L_op rfl (op_cn (fun w hw => eights_f [b0_62, b1_63] (some ⟨g65, 0, none⟩) 2 2 w (hok_cons ((src_full (z := 1) 0 rfl rfl sd sd) w hw) (hok_nil w)) (by first | rfl | assumption | omega | (simp; done) | (simp; omega)) sd) (enters_of Try.func38 kr rfl) rfl rfl rfl rfl rfl (fun t66 q67 => ?_))
    obtain ⟨B68, d69⟩ := t66
    refine lo rfl (pr_s2a sd Try.underlying27 rfl rfl) rfl rfl ?_
    refine lq rfl (ld_aggs (ds := ((eib [b0_62, b1_63] 2).map b8)) (src_row 0 rfl) (List.take_length) (by have h1 : (((eib [b0_62, b1_63] 2).map b8)).length = 16 := sd; omega) Try.underlying27 rfl (fwz (n := 16) kr sd) rfl rfl) rfl rfl ?_
    refine L_op rfl (op_sto (n := 16) (vs := ((eib [b0_62, b1_63] 2).map b8)) 9 rfl rfl kr (all8_one _) kr sd rfl rfl rfl rfl ?_)
    refine L_nil ?_
    refine T_ret ?_
    refine T_as 0 _ (.blk g2 27 ((ptag key (catp Q)).map b8)) rfl (by rw [tag_fin rfl (by assumption) (lst_end hp (by omega)) (ps_limbs key hkl)]) ?_
    exact T_finM 4 rfl () (by first | trivial | omega | (simp; done)) (resb 0 rfl rfl rfl Try.underlying27 rfl (fwz (n := 16) kr sd)) [] ⟨by decide, rfl⟩ rfl
  ·
   exact fun D t hq => hq.elim
end Go.Proofs.Ytemjinkdfjoicaa
