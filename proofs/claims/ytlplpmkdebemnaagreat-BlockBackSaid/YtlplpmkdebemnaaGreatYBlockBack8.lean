/- Walks by facts, part 8: what the functions that the law reaches answer. No conditions but lengths. -/
import Derived.Test.YtlplpmkdebemnaaGreatYBlockBack7
import Derived.Test.YtlplpmkdebemnaaGreatProg
set_option linter.unusedVariables false
set_option linter.unusedSimpArgs false
set_option linter.unnecessarySimpa false
namespace Go.Proofs.YtlplpmkdebemnaaGreat
set_option maxRecDepth 100000
open Go.RowKit Bv Fw
theorem pr_limbs (key : List (BitVec 8)) : (low (clampb key) 8).toNat + 18446744073709551616 * (low (List.take 8 (List.drop 8 (clampb key))) 8).toNat = pr key := by
  have h1 := vw_take16 (clampb key) 16 (by rw [clampb_len]; omega)
  rw [List.take_of_length_le (by rw [clampb_len]; omega)] at h1
  rw [List.take_of_length_le (by rw [List.length_drop, clampb_len]; omega)]
  unfold pr
  rw [h1]
theorem pr_limbs_lt (key : List (BitVec 8)) : (low (clampb key) 8).toNat + 18446744073709551616 * (low (List.take 8 (List.drop 8 (clampb key))) 8).toNat < 21267647932558653966460912964485513216 := by
  rw [pr_limbs]; exact pr_lt key
theorem low_take (xs : List (BitVec 8)) (n : Nat) : ∀ k, k ≤ n → low (xs.take n) k = low xs k
  | 0, _ => rfl
  | k + 1, h => by rw [low, low, low_take xs n k oM, ath_take xs n k oM]
theorem ps_limbs (key : List (BitVec 8)) (h : key.length = 32) : v3 (low (List.take 16 (List.drop 16 key)) 8) (low (List.take 8 (List.drop 24 key)) 8) 0#64 = ps key := by
  have h1 := vw_take16 (List.drop 16 key) 16 (by rw [List.length_drop]; omega)
  have h0 : (0#64).toNat = 0 := rfl
  unfold ps
  rw [v3_def, low_take _ _ _ oM, low_take _ _ _ oM, h0, h1, List.drop_drop, show 16 + 8 = 24 from rfl]
  omega
theorem blk_min (t : List (BitVec 8)) (n k : Nat) (h : t.length = n) : List.take (min 16 (n - 16 * k)) (List.drop (16 * k) t) = pblk t k := by
  unfold pblk
  have hl : (List.drop (16 * k) t).length = n - 16 * k := by rw [List.length_drop, h]
  by_cases h1 : 16 ≤ n - 16 * k
  · rw [Nat.min_eq_left h1]
  · rw [Nat.min_eq_right oM, List.take_of_length_le oM, List.take_of_length_le oM]
theorem side_c {a0 a1 a2 x y z : BitVec 64} {Y : Nat} (h : v3 a0 a1 a2 < 1573805947009340393518107559371927977984) (hz : v3 x y z = Y ∧ z.toNat ≤ 1) : a2.toNat + z.toNat + 1 < 18446744073709551616 := by
  have h1 := v3_lt_top (B := 5) (Nat.lt_trans h (by decide)); omega
theorem side_e {a0 a1 a2 : BitVec 64} (h : v3 a0 a1 a2 < 2722258935367507707706996859454145691648) : a2.toNat + (0#64).toNat + 1 < 18446744073709551616 := by
  have h1 := v3_lt_top (B := 8) (Nat.lt_of_lt_of_le h (by decide))
  have h0 : (0#64).toNat = 0 := rfl
  omega
theorem side_d {a0 a1 a2 x y z s0 s1 s2 : BitVec 64} {b : List (BitVec 8)} (h : v3 a0 a1 a2 < 1573805947009340393518107559371927977984) (hz : v3 x y z = pv b ∧ z.toNat ≤ 1) (hs : v3 s0 s1 s2 = v3 a0 a1 a2 + v3 x y z) (hb : b.length ≤ 16) : v3 s0 s1 s2 < 2722258935367507707706996859454145691648 := by
  have h1 := pv_lt b hb
  have h2 : (2 : Nat) ^ 129 = 680564733841876926926749214863536422912 := rfl
  rw [h2] at h1
  omega
theorem tag_next {a0 a1 a2 x y z s0 s1 s2 b0 b1 b2 : BitVec 64} {t : List (BitVec 8)} {n k r R : Nat} (ht : t.length = n) (hR : R = r) (hz : v3 x y z = pv (List.take (min 16 (n - 16 * k)) (List.drop (16 * k) t)) ∧ z.toNat ≤ 1) (hs : v3 s0 s1 s2 = v3 a0 a1 a2 + v3 x y z)
    (hb : v3 b0 b1 b2 % polyP = v3 s0 s1 s2 * R % polyP ∧ v3 b0 b1 b2 < 1573805947009340393518107559371927977984) (hp : v3 a0 a1 a2 % polyP = pacc r t k ∧ v3 a0 a1 a2 < 1573805947009340393518107559371927977984) : v3 b0 b1 b2 % polyP = pacc r t (k + 1) ∧ v3 b0 b1 b2 < 1573805947009340393518107559371927977984 := by
  refine ⟨?_, hb.2⟩
  rw [hb.1, hR]
  refine pacc_next r t k (v3 a0 a1 a2) _ hp.1 ?_
  rw [hs, hz.1, blk_min t n k ht]
def Lst (M i : Nat) (a b c : BitVec 64) : Prop := i ≤ 2 ∧ v3 a b c % polyP = M ∧ v3 a b c < 1573805947009340393518107559371927977984 ∧ (1 ≤ i → v3 a b c < polyP)
theorem lst_lt {M i : Nat} {a b c : BitVec 64} (h : Lst M i a b c) : v3 a b c < 2722258935367507707706996859454145691648 := Nat.lt_trans h.2.2.1 (by decide)
theorem lst_hi {M i : Nat} {a b c p q r : BitVec 64} (h : Lst M i a b c) (hi : i < 2) (hs : v3 p q r = v3 a b c + v3 5#64 0#64 0#64) (hc : 4#64 ≤ r) : Lst M (i + 1) p q (r - 4#64) := by
  have h5 : v3 5#64 0#64 0#64 = 5 := by rw [v3_def]; rfl
  rw [h5] at hs
  have hc2 : 4 ≤ r.toNat := BitVec.le_def.1 hc
  have hr : (r - 4#64).toNat = r.toNat - 4 := by
    rw [BitVec.toNat_sub]
    have := r.isLt
    have h4 : (4#64).toNat = 4 := rfl
    rw [h4]; omega
  have e : v3 p q (r - 4#64) + polyP = v3 a b c := by
    rw [v3_def] at hs ⊢
    rw [hr, polyP_eq]
    omega
  obtain ⟨h1, h2, h3, h4⟩ := h
  have e2 : v3 p q (r - 4#64) % polyP = M := by rw [← h2, ← e, Nat.add_mod_right]
  have hP : polyP = 1361129467683753853853498429727072845819 := by rw [polyP_eq]
  refine ⟨by omega, e2, by omega, fun _ => ?_⟩
  rw [hP] at e ⊢
  omega
theorem lst_lo {M i : Nat} {a b c p q r : BitVec 64} (h : Lst M i a b c) (hi : i < 2) (hs : v3 p q r = v3 a b c + v3 5#64 0#64 0#64) (hc : ¬ 4#64 ≤ r) : Lst M (i + 1) a b c := by
  have h5 : v3 5#64 0#64 0#64 = 5 := by rw [v3_def]; rfl
  rw [h5] at hs
  have hc2 : ¬ 4 ≤ r.toNat := fun h => hc (BitVec.le_def.2 h)
  obtain ⟨h1, h2, h3, h4⟩ := h
  refine ⟨by omega, h2, h3, fun _ => ?_⟩
  have hP : polyP = 1361129467683753853853498429727072845819 := by rw [polyP_eq]
  rw [hP]
  rw [v3_def p q r] at hs
  have := p.isLt
  have := q.isLt
  omega
theorem lst_end {M i : Nat} {a b c : BitVec 64} (h : Lst M i a b c) (hi : i = 2) : v3 a b c = M := by
  obtain ⟨h1, h2, h3, h4⟩ := h
  rw [← h2, Nat.mod_eq_of_lt (h4 oM)]
theorem lst_zero {M : Nat} {a b c : BitVec 64} (h : v3 a b c % polyP = M ∧ v3 a b c < 1573805947009340393518107559371927977984) : Lst M 0 a b c := ⟨by omega, h.1, h.2, fun h => by omega⟩
theorem tag_fin {f0 f1 f2 e0 e1 e2 x y : BitVec 64} {key t : List (BitVec 8)} {n : Nat} (ht : t.length = n) (hs : v3 f0 f1 f2 = v3 e0 e1 e2 + v3 x y 0#64) (he : v3 e0 e1 e2 = pacc (pr key) t ((n + 16 - 1) / 16)) (hx : v3 x y 0#64 = ps key) : eib [f0, f1] 2 = ptag key t := by
  have e : eib [f0, f1] 2 = lowb f0 8 ++ lowb f1 8 := by rw [eib_succ, eib_succ, eib_zero]; rfl
  have h0 : f0.toNat < 256 ^ 8 := f0.isLt
  rw [e, lowb_dig _ _ oM, lowb_dig _ _ oM, dig_app 8 8 _ _ h0]
  rw [v3_def, hx, he] at hs
  rw [ptag_def, ht, show (n + 15) / 16 = (n + 16 - 1) / 16 by omega, ← hs, ← dig_mod 8 16 (f0.toNat + 18446744073709551616 * f1.toNat + 340282366920938463463374607431768211456 * f2.toNat) 16 (Nat.le_refl _), ← dig_mod 8 (8 + 8) (f0.toNat + 256 ^ 8 * f1.toNat) 16 oM]
  congr 1
  have p8 : (256 : Nat) ^ 8 = 18446744073709551616 := rfl
  have p16 : (256 : Nat) ^ 16 = 340282366920938463463374607431768211456 := rfl
  rw [p8, p16]
  omega
attribute [irreducible] Lst
set_option maxHeartbeats 4000000 in
theorem ptag_f (key : List (BitVec 8)) (Q : List Pt) (A : Option Addr) (nq : Nat) (c : Nat) (w : World) (hO : HOK [.rd A 1 nq c (Q.map Pt.sl), .all Q] w) (hkl : key.length = 32) (hQ : Q.length = nq) (hm : nq ≤ 100000000) (hs : (catp Q).length ≤ 1000000000) : Calls Tryz.prog 57 [(.agg (key.map b8).toArray), (.slice A nq c)].toArray w (Ret (T := Unit) [] w (fun _ => True) (fun _ => (.agg ((ptag key (catp Q)).map b8).toArray)) (fun _ => [])) := by
 have hcl := clampb_len key
 have hpl := ptag_len key (catp Q)
 have hel := fun f g => eib_len [f, g] 2
 have hc8 : (List.take 8 (List.drop 8 (clampb key))).length = 8 := by rw [List.length_take, List.length_drop, hcl]; rfl
 have hk8 : (List.take 16 (List.drop 16 key)).length = 16 := by simp; omega
 have hk9 : (List.take 8 (List.drop 24 key)).length = 8 := by simp; omega
 have hF : Wid Fence.wide := wid_wide
 refine enter_m (c := _) Tryz.func57 rfl [] _ [.rd A 1 nq c (Q.map Pt.sl), .all Q] (by rw [Tryz.ntmps57]; rfl) (own_rds hO rfl) ?_
 rw [Tryz.ntmps57]
 refine lE [(0, (.agg (key.map b8).toArray)), (1, (.slice A nq c))] ?_
 refine lH [0, 1] [.rd A 1 nq c (Q.map Pt.sl), .all Q] ?_
 refine lT ?_
 refine L_op rfl (op_box (zs := (key.map b8)) rfl rfl rfl rfl rfl (fun g1 => ?_))
 refine L_op rfl (op_alloc (z := .agg ((List.replicate 16 0#8).map b8).toArray) (zs := ((List.replicate 16 0#8).map b8)) kr rfl rfl rfl rfl (fun g2 => ?_))
 refine lN ?_
 refine lQ (ld_agg (ds := (key.map b8)) 1 rfl agg_all Tryz.underlying22 rfl (fwz (n := 32) kr sd) rfl rfl) ?_
 refine L_op rfl (op_cn (fun w hw => clamp_f key w (hok_nil w) sd) (enters_of Tryz.func77 kr rfl) rfl rfl rfl rfl rfl (fun t3 q4 => ?_))
 refine L_op rfl (op_alloc (z := .agg ((List.replicate 16 0#8).map b8).toArray) (zs := ((List.replicate 16 0#8).map b8)) kr rfl rfl rfl rfl (fun g5 => ?_))
 refine L_op rfl (op_sto (n := 16) (vs := ((clampb key).map b8)) 0 rfl rfl kr (all8_one _) kr sd rfl rfl rfl rfl ?_)
 refine L_nil ?_
 refine T_seq ?_
 refine T_regD [.blk g5 62 ((clampb key).map b8), .blk g2 62 ((List.replicate 16 0#8).map b8), .blk g1 22 (key.map b8), .rd A 1 nq c (Q.map Pt.sl), .all Q] 7 7 #[false, false, false, false, false, false, false] hF kr kr ?_
 refine D_pure (i := 0) [0, 1, 2, 3, 4] rfl kr rfl (pr_sla (l := 0) (u := 16) (m := 0) sd sd sd rfl Tryz.underlying62 (z := 1) kr rfl rfl rfl rfl) (.inr rfl) rfl rfl ?_
 refine D_pure (i := 2) [0, 1, 2, 3, 4] rfl kr rfl (pr_sla (l := 8) (u := 16) (m := 8) sd sd sd rfl Tryz.underlying62 (z := 1) kr rfl rfl ⟨_, rfl⟩ rfl) (.inr rfl) rfl rfl ?_
 refine D_join (T := Nat) (fun _ => True) (fun g10 => [(1, (.slice A nq c)), (2, (.pointer (some ⟨g1, 0, none⟩))), (4, (.pointer (some ⟨g2, 0, none⟩))), (6, (.pointer (some ⟨g10, 0, none⟩)))]) (fun g10 => [.blk g10 106 [(b64 (low (clampb key) 8)), (b64 (low (List.take 8 (List.drop 8 (clampb key))) 8))], .blk g5 62 ((clampb key).map b8), .blk g2 62 ((List.replicate 16 0#8).map b8), .blk g1 22 (key.map b8), .rd A 1 nq c (Q.map Pt.sl), .all Q]) ?_ ?_
 ·refine D_all [1, 5] kr (by simp) ⟨⟨_, rfl, rfl, ?_⟩, ⟨_, rfl, rfl, ?_⟩, trivial⟩
  ·refine id (op_cn (fun w hw => low_f (clampb key) 8 (some ⟨g5, 0, none⟩) 16 16 w (hok_cons ((src_full (z := 1) 0 rfl sd sd sd) w hw) (hok_nil w)) sd sd sd) (enters_of Tryz.func68 kr rfl) rfl rfl rfl rfl rfl (fun t11 q12 => ?_))
   refine D_on [0, 1, 2, 3, 4] rfl ?_
   refine D_all [3, 5] kr (by simp) ⟨⟨_, rfl, rfl, ?_⟩, ⟨_, rfl, rfl, ?_⟩, trivial⟩
   ·refine id (op_cn (fun w hw => low_f (List.take 8 (List.drop 8 (clampb key))) 8 (some ⟨g5, 8, none⟩) 8 8 w (hok_cons ((src_sub 0 rfl sd sd sd) w hw) (hok_nil w)) sd sd sd) (enters_of Tryz.func68 kr rfl) rfl rfl rfl rfl rfl (fun t13 q14 => ?_))
    refine D_on [0, 1, 2, 3, 4] rfl ?_
    refine D_pure (i := 4) [0, 1, 2, 3, 4] rfl kr rfl (pr_build (qs := [(0, (b64 (low (clampb key) 8))), (1, (b64 (low (List.take 8 (List.drop 8 (clampb key))) 8)))]) (v := .agg [(b64 (low (clampb key) 8)), (b64 (low (List.take 8 (List.drop 8 (clampb key))) 8))].toArray) (fun _ => by kernel_rfl) rfl rfl) (.inr rfl) rfl rfl ?_
    refine D_one 5 _ rfl kr rfl (op_alloc (z := .agg [(b64 (0#64)), (b64 (0#64))].toArray) (zs := [(b64 (0#64)), (b64 (0#64))]) kr rfl rfl rfl rfl (fun g15 => ?_))
    refine D_on [1, 2, 3, 4, 5] rfl ?_
    refine D_one 6 _ rfl kr rfl (op_sto (n := 2) (vs := [(b64 (low (clampb key) 8)), (b64 (low (List.take 8 (List.drop 8 (clampb key))) 8))]) 0 rfl rfl kr (by simp [Value.oneCell']) kr kr rfl rfl rfl rfl ?_)
    refine D_on [1, 2, 3, 4, 5] rfl ?_
    refine D_done kr ?_
    exact T_meet g15 trivial (sc rfl (sc rfl (sc rfl (sc rfl sn)))) [0, 1, 2, 3, 4, 5] ⟨by decide, rfl⟩
   refine id (op_alloc (z := .agg [(b64 (0#64)), (b64 (0#64))].toArray) (zs := [(b64 (0#64)), (b64 (0#64))]) kr rfl rfl rfl rfl (fun g16 => ?_))
   refine D_on [1, 2, 3, 4, 5] rfl ?_
   refine D_one 3 _ rfl kr rfl (op_cn (fun w hw => low_f (List.take 8 (List.drop 8 (clampb key))) 8 (some ⟨g5, 8, none⟩) 8 8 w (hok_cons ((src_sub 1 rfl sd sd sd) w hw) (hok_nil w)) sd sd sd) (enters_of Tryz.func68 kr rfl) rfl rfl rfl rfl rfl (fun t17 q18 => ?_))
   refine D_on [1, 2, 3, 4, 5] rfl ?_
   refine D_pure (i := 4) [1, 2, 3, 4, 5] rfl kr rfl (pr_build (qs := [(0, (b64 (low (clampb key) 8))), (1, (b64 (low (List.take 8 (List.drop 8 (clampb key))) 8)))]) (v := .agg [(b64 (low (clampb key) 8)), (b64 (low (List.take 8 (List.drop 8 (clampb key))) 8))].toArray) (fun _ => by kernel_rfl) rfl rfl) (.inr rfl) rfl rfl ?_
   refine D_one 6 _ rfl kr rfl (op_sto (n := 2) (vs := [(b64 (low (clampb key) 8)), (b64 (low (List.take 8 (List.drop 8 (clampb key))) 8))]) 0 rfl rfl kr (by simp [Value.oneCell']) kr kr rfl rfl rfl rfl ?_)
   refine D_on [1, 2, 3, 4, 5] rfl ?_
   refine D_done kr ?_
   exact T_meet g16 trivial (sc rfl (sc rfl (sc rfl (sc rfl sn)))) [0, 1, 2, 3, 4, 5] ⟨by decide, rfl⟩
  refine id (op_alloc (z := .agg [(b64 (0#64)), (b64 (0#64))].toArray) (zs := [(b64 (0#64)), (b64 (0#64))]) kr rfl rfl rfl rfl (fun g19 => ?_))
  refine D_on [1, 2, 3, 4, 5] rfl ?_
  refine D_one 1 _ rfl kr rfl (op_cn (fun w hw => low_f (clampb key) 8 (some ⟨g5, 0, none⟩) 16 16 w (hok_cons ((src_full (z := 1) 1 rfl sd sd sd) w hw) (hok_nil w)) sd sd sd) (enters_of Tryz.func68 kr rfl) rfl rfl rfl rfl rfl (fun t20 q21 => ?_))
  refine D_on [1, 2, 3, 4, 5] rfl ?_
  refine D_one 3 _ rfl kr rfl (op_cn (fun w hw => low_f (List.take 8 (List.drop 8 (clampb key))) 8 (some ⟨g5, 8, none⟩) 8 8 w (hok_cons ((src_sub 1 rfl sd sd sd) w hw) (hok_nil w)) sd sd sd) (enters_of Tryz.func68 kr rfl) rfl rfl rfl rfl rfl (fun t22 q23 => ?_))
  refine D_on [1, 2, 3, 4, 5] rfl ?_
  refine D_pure (i := 4) [1, 2, 3, 4, 5] rfl kr rfl (pr_build (qs := [(0, (b64 (low (clampb key) 8))), (1, (b64 (low (List.take 8 (List.drop 8 (clampb key))) 8)))]) (v := .agg [(b64 (low (clampb key) 8)), (b64 (low (List.take 8 (List.drop 8 (clampb key))) 8))].toArray) (fun _ => by kernel_rfl) rfl rfl) (.inr rfl) rfl rfl ?_
  refine D_one 6 _ rfl kr rfl (op_sto (n := 2) (vs := [(b64 (low (clampb key) 8)), (b64 (low (List.take 8 (List.drop 8 (clampb key))) 8))]) 0 rfl rfl kr (by simp [Value.oneCell']) kr kr rfl rfl rfl rfl ?_)
  refine D_on [1, 2, 3, 4, 5] rfl ?_
  refine D_done kr ?_
  exact T_meet g19 trivial (sc rfl (sc rfl (sc rfl (sc rfl sn)))) [0, 1, 2, 3, 4, 5] ⟨by decide, rfl⟩
 rintro g10 -
 refine lE [(1, (.slice A nq c)), (2, (.pointer (some ⟨g1, 0, none⟩))), (4, (.pointer (some ⟨g2, 0, none⟩))), (6, (.pointer (some ⟨g10, 0, none⟩)))] ?_
 refine lH [0, 1, 2, 3, 4, 5] [.blk g10 106 [(b64 (low (clampb key) 8)), (b64 (low (List.take 8 (List.drop 8 (clampb key))) 8))], .blk g5 62 ((clampb key).map b8), .blk g2 62 ((List.replicate 16 0#8).map b8), .blk g1 22 (key.map b8), .rd A 1 nq c (Q.map Pt.sl), .all Q] ?_
 refine lT ?_
 refine L_op rfl (op_alloc (z := .agg [(b64 (0#64)), (b64 (0#64)), (b64 (0#64))].toArray) (zs := [(b64 (0#64)), (b64 (0#64)), (b64 (0#64))]) kr rfl rfl rfl rfl (fun g24 => ?_))
 refine L_nil ?_
 refine T_seq ?_
 refine lT ?_
 refine lM ?_
 refine L_op rfl (op_cn (fun w hw => concat_f Q A nq c w (hok_cons ((src_rd 5 rfl) w hw) (hok_cons (hw _ (List.mem_of_getElem? (i := 6) rfl)) (hok_nil w))) sd sd sd) (enters_of Tryz.func78 kr rfl) rfl rfl rfl rfl rfl (fun t25 q26 => ?_))
 obtain ⟨B27, d28⟩ := t25
 refine L_op rfl (op_cn (fun w hw => chunk_f B27 ((catp Q).length) d28 16 w (hok_nil w) sd) (enters_of Tryz.func45 kr rfl) rfl rfl rfl rfl rfl (fun t29 q30 => ?_))
 obtain ⟨g1_31, g2_32⟩ := t29
 refine L_nil ?_
 refine T_block ?_
 refine T_tord 0 rfl ?_
 refine T_tord 1 rfl ?_
 refine T_old 2 rfl ?_
 refine T_tord 0 rfl ?_
 refine T_range (Θ := Option Addr) (T := BitVec 64 × BitVec 64 × BitVec 64) (Tx := Unit) (cap := [(.pointer (some ⟨g1_31, 0, none⟩)), (.pointer (some ⟨g2_32, 0, none⟩))]) (ps := [20]) (chunk_seq (catp Q) 16 B27 ((catp Q).length) d28 g1_31 g2_32 sd sd sd sd) rfl (enters_of Tryz.func67 kr rfl) (fun k ⟨a0, a1, a2⟩ => v3 a0 a1 a2 % polyP = pacc (pr key) (catp Q) k ∧ v3 a0 a1 a2 < 1573805947009340393518107559371927977984) (fun k ⟨a0, a1, a2⟩ => [.rd B27 1 ((catp Q).length) d28 ((catp Q).map b8), .rd (some ⟨g2_32, 0, none⟩) 1 1 1 [(.int .i64 ((16 : Nat) : Int))], .rd (some ⟨g1_31, 0, none⟩) 1 1 1 [(.slice B27 ((catp Q).length) d28)], .blk g24 108 [(b64 a0), (b64 a1), (b64 a2)], .blk g10 106 [(b64 (low (clampb key) 8)), (b64 (low (List.take 8 (List.drop 8 (clampb key))) 8))], .blk g5 62 ((clampb key).map b8), .blk g2 62 ((List.replicate 16 0#8).map b8), .blk g1 22 (key.map b8), .rd A 1 nq c (Q.map Pt.sl), .all Q]) (fun _ => False) (fun _ => []) 0 (0#64, 0#64, 0#64) (⟨by rw [v3_def, pacc_zero]; rfl, by rw [v3_def]; decide⟩) [0, 1, 2, 3, 4, 5, 6, 7, 8, 9] ⟨by decide, rfl⟩ [2, 1, 0] rfl rfl (fun _ _ => rfl) (fun _ => rfl) (fun _ _ => rfl) (fun _ _ => rfl) rfl (fun _ => trivial) ?_ ?_ ?_
 ·intro C2 w2 lo2 rs2 l D m k t th rc hrec hk hp
  obtain ⟨a0, a1, a2⟩ := t
  obtain ⟨B, rfl⟩ : ∃ x, x = th := ⟨_, rfl⟩
  have hp : v3 a0 a1 a2 % polyP = pacc (pr key) (catp Q) k ∧ v3 a0 a1 a2 < 1573805947009340393518107559371927977984 := hp
  have hk : k < (((catp Q).length) + 16 - 1) / 16 := hk
  have hF : Wid (Fence.wide.inRound l) := wid_round l
  refine lE [(6, (.pointer (some ⟨g10, 0, none⟩))), (7, (.pointer (some ⟨g24, 0, none⟩))), (20, (.slice B (min 16 (((catp Q).length) - 16 * k)) (min 16 (((catp Q).length) - 16 * k))))] ?_
  refine lH [0, 1, 2, 3, 4, 5, 6, 7, 8, 9, 10, 11, 12] [.rd B 1 (min 16 (((catp Q).length) - 16 * k)) (min 16 (((catp Q).length) - 16 * k)) ((List.take (min 16 (((catp Q).length) - 16 * k)) (List.drop (16 * k) (catp Q))).map b8), .obj l (.loop rc), .obj D (.deferred (some [])), .rd B27 1 ((catp Q).length) d28 ((catp Q).map b8), .rd (some ⟨g2_32, 0, none⟩) 1 1 1 [(.int .i64 ((16 : Nat) : Int))], .rd (some ⟨g1_31, 0, none⟩) 1 1 1 [(.slice B27 ((catp Q).length) d28)], .blk g24 108 [(b64 a0), (b64 a1), (b64 a2)], .blk g10 106 [(b64 (low (clampb key) 8)), (b64 (low (List.take 8 (List.drop 8 (clampb key))) 8))], .blk g5 62 ((clampb key).map b8), .blk g2 62 ((List.replicate 16 0#8).map b8), .blk g1 22 (key.map b8), .rd A 1 nq c (Q.map Pt.sl), .all Q] ?_
  refine lR ?_
  refine lS ?_
  refine L_nil ?_
  refine T_begun 1 rfl hrec ?_
  refine T_block ?_
  refine T_regD [.obj l (.loop { rc with state := .busy }), .rd B 1 (min 16 (((catp Q).length) - 16 * k)) (min 16 (((catp Q).length) - 16 * k)) ((List.take (min 16 (((catp Q).length) - 16 * k)) (List.drop (16 * k) (catp Q))).map b8), .obj D (.deferred (some [])), .rd B27 1 ((catp Q).length) d28 ((catp Q).map b8), .rd (some ⟨g2_32, 0, none⟩) 1 1 1 [(.int .i64 ((16 : Nat) : Int))], .rd (some ⟨g1_31, 0, none⟩) 1 1 1 [(.slice B27 ((catp Q).length) d28)], .blk g24 108 [(b64 a0), (b64 a1), (b64 a2)], .blk g10 106 [(b64 (low (clampb key) 8)), (b64 (low (List.take 8 (List.drop 8 (clampb key))) 8))], .blk g5 62 ((clampb key).map b8), .blk g2 62 ((List.replicate 16 0#8).map b8), .blk g1 22 (key.map b8), .rd A 1 nq c (Q.map Pt.sl), .all Q] 9 10 #[false, false, false, false, false, false, false, false, false, false] hF kr kr ?_
  refine D_pure (i := 1) [0, 1, 2, 3, 4, 5, 6, 7, 8, 9, 10, 11, 12] rfl kr rfl (pr_move rfl rfl) (.inr rfl) rfl rfl ?_
  refine D_take (i := 0) [0, 1, 2, 3, 4, 5, 6, 7, 8, 9, 10, 11, 12] rfl kr rfl (ld_agg (ds := [(b64 a0), (b64 a1), (b64 a2)]) 6 rfl agg_all Tryz.underlying108 rfl kr rfl rfl) rfl rfl rfl ?_
  refine D_take (i := 7) [0, 1, 2, 3, 4, 5, 6, 7, 8, 9, 10, 11, 12] rfl kr rfl (ld_agg (ds := [(b64 (low (clampb key) 8)), (b64 (low (List.take 8 (List.drop 8 (clampb key))) 8))]) 7 rfl agg_all Tryz.underlying106 rfl kr rfl rfl) rfl rfl rfl ?_
  refine D_one 2 _ rfl kr rfl (op_cn (fun w hw => piece_f (List.take (min 16 (((catp Q).length) - 16 * k)) (List.drop (16 * k) (catp Q))) B (min 16 (((catp Q).length) - 16 * k)) (min 16 (((catp Q).length) - 16 * k)) w (hok_cons ((src_rd 1 rfl) w hw) (hok_nil w)) (by simp; done) sd) (enters_of Tryz.func80 kr rfl) rfl rfl rfl rfl rfl (fun t33 q34 => ?_))
  obtain ⟨x35, y36, z37⟩ := t33
  have q34 : v3 x35 y36 z37 = pv (List.take (min 16 (((catp Q).length) - 16 * k)) (List.drop (16 * k) (catp Q))) ∧ z37.toNat ≤ 1 := q34
  refine D_on [0, 1, 2, 3, 4, 5, 6, 7, 8, 9, 10, 11, 12] rfl ?_
  refine D_pure (i := 3) [0, 1, 2, 3, 4, 5, 6, 7, 8, 9, 10, 11, 12] rfl kr rfl (pr_ext (vs := [(b64 x35), (b64 y36), (b64 z37)]) rfl rfl rfl) (.inr rfl) rfl rfl ?_
  refine D_pure (i := 4) [0, 1, 2, 3, 4, 5, 6, 7, 8, 9, 10, 11, 12] rfl kr rfl (pr_ext (vs := [(b64 x35), (b64 y36), (b64 z37)]) rfl rfl rfl) (.inr rfl) rfl rfl ?_
  refine D_pure (i := 5) [0, 1, 2, 3, 4, 5, 6, 7, 8, 9, 10, 11, 12] rfl kr rfl (pr_ext (vs := [(b64 x35), (b64 y36), (b64 z37)]) rfl rfl rfl) (.inr rfl) rfl rfl ?_
  refine D_one 6 _ rfl kr rfl (op_cn (fun w hw => plus_f a0 a1 a2 x35 y36 z37 w (hok_nil w) (side_c hp.2 aS)) (enters_of Tryz.func79 kr rfl) rfl rfl rfl rfl rfl (fun t38 q39 => ?_))
  obtain ⟨b0_40, b1_41, b2_42⟩ := t38
  have q39 : v3 b0_40 b1_41 b2_42 = v3 a0 a1 a2 + v3 x35 y36 z37 := q39
  refine D_on [0, 1, 2, 3, 4, 5, 6, 7, 8, 9, 10, 11, 12] rfl ?_
  refine D_one 8 _ rfl kr rfl (op_cn (fun w hw => times_f b0_40 b1_41 b2_42 (low (clampb key) 8) (low (List.take 8 (List.drop 8 (clampb key))) 8) w (hok_nil w) (side_d hp.2 aS aS (by rw [blk_min _ _ k rfl]; exact pblk_len_le _ _)) (pr_limbs_lt key)) (enters_of Tryz.func81 kr rfl) rfl rfl rfl rfl rfl (fun t43 q44 => ?_))
  obtain ⟨b0_45, b1_46, b2_47⟩ := t43
  have q44 : v3 b0_45 b1_46 b2_47 % polyP = v3 b0_40 b1_41 b2_42 * ((low (clampb key) 8).toNat + 18446744073709551616 * (low (List.take 8 (List.drop 8 (clampb key))) 8).toNat) % polyP ∧ v3 b0_45 b1_46 b2_47 < 1573805947009340393518107559371927977984 := q44
  refine D_on [0, 1, 2, 3, 4, 5, 6, 7, 8, 9, 10, 11, 12] rfl ?_
  refine D_one 9 _ rfl kr rfl (op_sto (n := 3) (vs := [(b64 b0_45), (b64 b1_46), (b64 b2_47)]) 6 rfl rfl kr (by simp [Value.oneCell']) kr kr rfl rfl rfl rfl ?_)
  refine D_past kr ?_
  refine D_done kr ?_
  exact T_on (b0_45, b1_46, b2_47) (tag_next rfl (pr_limbs key) aS aS aS hp) [1, 3, 4, 5, 6, 0, 7, 8, 9, 10, 11, 12] ⟨by decide, rfl⟩
 ·intro D t hp
  obtain ⟨a0, a1, a2⟩ := t
  have hp : v3 a0 a1 a2 % polyP = pacc (pr key) (catp Q) ((((catp Q).length) + 16 - 1) / 16) ∧ v3 a0 a1 a2 < 1573805947009340393518107559371927977984 := hp
  refine lE [(2, (.pointer (some ⟨g1, 0, none⟩))), (4, (.pointer (some ⟨g2, 0, none⟩))), (7, (.pointer (some ⟨g24, 0, none⟩)))] ?_
  refine lH [0, 1, 2, 3, 4, 5, 6, 7, 8, 9, 10] [.obj D (.deferred (some [])), .rd B27 1 ((catp Q).length) d28 ((catp Q).map b8), .rd (some ⟨g2_32, 0, none⟩) 1 1 1 [(.int .i64 ((16 : Nat) : Int))], .rd (some ⟨g1_31, 0, none⟩) 1 1 1 [(.slice B27 ((catp Q).length) d28)], .blk g24 108 [(b64 a0), (b64 a1), (b64 a2)], .blk g10 106 [(b64 (low (clampb key) 8)), (b64 (low (List.take 8 (List.drop 8 (clampb key))) 8))], .blk g5 62 ((clampb key).map b8), .blk g2 62 ((List.replicate 16 0#8).map b8), .blk g1 22 (key.map b8), .rd A 1 nq c (Q.map Pt.sl), .all Q] ?_
  refine T_seq ?_
  refine lT ?_
  refine lM ?_
  refine L_nil ?_
  refine T_block ?_
  refine T_loop (T := Nat × BitVec 64 × BitVec 64 × BitVec 64) (fun ⟨i, e0, e1, e2⟩ => Lst (pacc (pr key) (catp Q) (((catp Q).length + 16 - 1) / 16)) i e0 e1 e2) (fun ⟨i, e0, e1, e2⟩ => [(2, (.pointer (some ⟨g1, 0, none⟩))), (4, (.pointer (some ⟨g2, 0, none⟩))), (7, (.pointer (some ⟨g24, 0, none⟩))), (30, (.int .i64 ((i : Nat) : Int)))]) (fun ⟨i, e0, e1, e2⟩ => [.obj D (.deferred (some [])), .rd B27 1 ((catp Q).length) d28 ((catp Q).map b8), .rd (some ⟨g2_32, 0, none⟩) 1 1 1 [(.int .i64 ((16 : Nat) : Int))], .rd (some ⟨g1_31, 0, none⟩) 1 1 1 [(.slice B27 ((catp Q).length) d28)], .blk g24 108 [(b64 e0), (b64 e1), (b64 e2)], .blk g10 106 [(b64 (low (clampb key) 8)), (b64 (low (List.take 8 (List.drop 8 (clampb key))) 8))], .blk g5 62 ((clampb key).map b8), .blk g2 62 ((List.replicate 16 0#8).map b8), .blk g1 22 (key.map b8), .rd A 1 nq c (Q.map Pt.sl), .all Q]) (fun ⟨i, e0, e1, e2⟩ => 2 - i) (0, a0, a1, a2) (lst_zero hp) (sc rfl (sc rfl (sc rfl (sc rfl sn)))) [0, 1, 2, 3, 4, 5, 6, 7, 8, 9, 10] ⟨by decide, rfl⟩ ?_
  rintro ⟨i, e0, e1, e2⟩ hp
  have hp : Lst (pacc (pr key) (catp Q) (((catp Q).length + 16 - 1) / 16)) i e0 e1 e2 := hp
  have hi2 : i ≤ 2 := by unfold Lst at hp; exact hp.1
  refine lE [(2, (.pointer (some ⟨g1, 0, none⟩))), (4, (.pointer (some ⟨g2, 0, none⟩))), (7, (.pointer (some ⟨g24, 0, none⟩))), (30, (.int .i64 ((i : Nat) : Int)))] ?_
  refine lH [0, 1, 2, 3, 4, 5, 6, 7, 8, 9, 10] [.obj D (.deferred (some [])), .rd B27 1 ((catp Q).length) d28 ((catp Q).map b8), .rd (some ⟨g2_32, 0, none⟩) 1 1 1 [(.int .i64 ((16 : Nat) : Int))], .rd (some ⟨g1_31, 0, none⟩) 1 1 1 [(.slice B27 ((catp Q).length) d28)], .blk g24 108 [(b64 e0), (b64 e1), (b64 e2)], .blk g10 106 [(b64 (low (clampb key) 8)), (b64 (low (List.take 8 (List.drop 8 (clampb key))) 8))], .blk g5 62 ((clampb key).map b8), .blk g2 62 ((List.replicate 16 0#8).map b8), .blk g1 22 (key.map b8), .rd A 1 nq c (Q.map Pt.sl), .all Q] ?_
  refine lT ?_
  refine lO (pr_cmp (bo := .lss) (nc_lt (a := i) (b := 2)) rfl rfl rfl rfl) ?_
  refine L_nil ?_
  refine T_seq ?_
  refine T_cond (decide (i < 2)) rfl (fun hc_48 => ?_) (fun hc_48 => ?_)
  ·have hc_48 := of_decide_eq_true hc_48
   refine T_skip ?_
   refine T_seq ?_
   refine T_block ?_
   refine lT ?_
   refine lQ (ld_agg (ds := [(b64 e0), (b64 e1), (b64 e2)]) 4 rfl agg_all Tryz.underlying108 rfl kr rfl rfl) ?_
   refine L_op rfl (op_cn (fun w hw => plus_f e0 e1 e2 (5#64) (0#64) (0#64) w (hok_nil w) (side_e (lst_lt hp))) (enters_of Tryz.func79 kr rfl) rfl rfl rfl rfl rfl (fun t49 q50 => ?_))
   obtain ⟨b0_51, b1_52, b2_53⟩ := t49
   have q50 : v3 b0_51 b1_52 b2_53 = v3 e0 e1 e2 + v3 (5#64) (0#64) (0#64) := q50
   refine L_op rfl (op_alloc (z := .agg [(b64 (0#64)), (b64 (0#64)), (b64 (0#64))].toArray) (zs := [(b64 (0#64)), (b64 (0#64)), (b64 (0#64))]) kr rfl rfl rfl rfl (fun g54 => ?_))
   refine L_op rfl (op_sto (n := 3) (vs := [(b64 b0_51), (b64 b1_52), (b64 b2_53)]) 0 rfl rfl kr (by simp [Value.oneCell']) kr kr rfl rfl rfl rfl ?_)
   refine lN ?_
   refine lO (pr_ixa (j := 2) (m' := 2) sd oM Tryz.underlying108 (z := 1) kr rfl rfl rfl) ?_
   refine lQ (ld_blk 0 rfl rfl Tryz.underlying23 rfl rfl rfl) ?_
   refine lO (pr_cmp (bo := .geq) (cm_le64 (4#64) b2_53) rfl rfl rfl rfl) ?_
   refine L_nil ?_
   refine T_cond (decide (4#64 ≤ b2_53)) rfl (fun hc_55 => ?_) (fun hc_55 => ?_)
   ·have hc_55 := of_decide_eq_true hc_55
    refine lR ?_
    refine lO (pr_ixa (j := 0) (m' := 0) sd oM Tryz.underlying108 (z := 1) kr rfl rfl rfl) ?_
    refine lQ (ld_blk 0 rfl rfl Tryz.underlying23 rfl rfl rfl) ?_
    refine lO (pr_ixa (j := 1) (m' := 1) sd oM Tryz.underlying108 (z := 1) kr rfl rfl rfl) ?_
    refine lQ (ld_blk 0 rfl rfl Tryz.underlying23 rfl rfl rfl) ?_
    refine lO (pr_ixa (j := 2) (m' := 2) sd oM Tryz.underlying108 (z := 1) kr rfl rfl rfl) ?_
    refine lQ (ld_blk 0 rfl rfl Tryz.underlying23 rfl rfl rfl) ?_
    refine lO (pr_sub (sub64 _ (4#64)) rfl rfl rfl) ?_
    refine lO (pr_build (qs := [(0, (b64 b0_51)), (1, (b64 b1_52)), (2, (b64 (b2_53 - 4#64)))]) (v := .agg [(b64 b0_51), (b64 b1_52), (b64 (b2_53 - 4#64))].toArray) (fun _ => by kernel_rfl) rfl rfl) ?_
    refine L_op rfl (op_sto (n := 3) (vs := [(b64 b0_51), (b64 b1_52), (b64 (b2_53 - 4#64))]) 5 rfl rfl kr (by simp [Value.oneCell']) kr kr rfl rfl rfl rfl ?_)
    refine L_nil ?_
    refine lR ?_
    refine lO (pr_add (na_i64 (a := i) (b := 1) sd) rfl rfl rfl) ?_
    refine lM ?_
    refine L_nil ?_
    exact T_again (i + 1, b0_51, b1_52, (b2_53 - 4#64)) (by exact lst_hi hp aS aS aS) (show 2 - (i + 1) < 2 - i from Nat.sub_lt_sub_left aS (Nat.lt_succ_self i)) (sc rfl (sc rfl (sc rfl (sc rfl sn)))) [2, 3, 4, 5, 0, 6, 7, 8, 9, 10, 11] ⟨by decide, rfl⟩
   have hc_55 := of_decide_eq_false hc_55
   refine T_skip ?_
   refine lR ?_
   refine lO (pr_add (na_i64 (a := i) (b := 1) sd) rfl rfl rfl) ?_
   refine lM ?_
   refine L_nil ?_
   exact T_again (i + 1, e0, e1, e2) (by exact lst_lo hp aS aS aS) (show 2 - (i + 1) < 2 - i from Nat.sub_lt_sub_left aS (Nat.lt_succ_self i)) (sc rfl (sc rfl (sc rfl (sc rfl sn)))) [1, 2, 3, 4, 5, 6, 7, 8, 9, 10, 11] ⟨by decide, rfl⟩
  have hc_48 := of_decide_eq_false hc_48
  refine T_exit rfl ?_
  refine T_seq ?_
  refine T_regD [.obj D (.deferred (some [])), .rd B27 1 ((catp Q).length) d28 ((catp Q).map b8), .rd (some ⟨g2_32, 0, none⟩) 1 1 1 [(.int .i64 ((16 : Nat) : Int))], .rd (some ⟨g1_31, 0, none⟩) 1 1 1 [(.slice B27 ((catp Q).length) d28)], .blk g24 108 [(b64 e0), (b64 e1), (b64 e2)], .blk g10 106 [(b64 (low (clampb key) 8)), (b64 (low (List.take 8 (List.drop 8 (clampb key))) 8))], .blk g5 62 ((clampb key).map b8), .blk g2 62 ((List.replicate 16 0#8).map b8), .blk g1 22 (key.map b8), .rd A 1 nq c (Q.map Pt.sl), .all Q] 6 7 #[false, false, false, false, false, false, false] hF kr kr ?_
  refine D_pure (i := 1) [0, 1, 2, 3, 4, 5, 6, 7, 8, 9, 10] rfl kr rfl (pr_sla (l := 16) (u := 32) (m := 16) sd sd sd rfl Tryz.underlying22 (z := 1) kr rfl rfl ⟨_, rfl⟩ rfl) (.inr rfl) rfl rfl ?_
  refine D_pure (i := 3) [0, 1, 2, 3, 4, 5, 6, 7, 8, 9, 10] rfl kr rfl (pr_sla (l := 24) (u := 32) (m := 24) sd sd sd rfl Tryz.underlying22 (z := 1) kr rfl rfl ⟨_, rfl⟩ rfl) (.inr rfl) rfl rfl ?_
  refine D_take (i := 0) [0, 1, 2, 3, 4, 5, 6, 7, 8, 9, 10] rfl kr rfl (ld_agg (ds := [(b64 e0), (b64 e1), (b64 e2)]) 4 rfl agg_all Tryz.underlying108 rfl kr rfl rfl) rfl rfl rfl ?_
  refine D_one 2 _ rfl kr rfl (op_cn (fun w hw => low_f (List.take 16 (List.drop 16 key)) 8 (some ⟨g1, 16, none⟩) 16 16 w (hok_cons ((src_sub 8 rfl sd sd sd) w hw) (hok_nil w)) sd sd sd) (enters_of Tryz.func68 kr rfl) rfl rfl rfl rfl rfl (fun t56 q57 => ?_))
  refine D_on [0, 1, 2, 3, 4, 5, 6, 7, 8, 9, 10] rfl ?_
  refine D_one 4 _ rfl kr rfl (op_cn (fun w hw => low_f (List.take 8 (List.drop 24 key)) 8 (some ⟨g1, 24, none⟩) 8 8 w (hok_cons ((src_sub 8 rfl sd sd sd) w hw) (hok_nil w)) sd sd sd) (enters_of Tryz.func68 kr rfl) rfl rfl rfl rfl rfl (fun t58 q59 => ?_))
  refine D_on [0, 1, 2, 3, 4, 5, 6, 7, 8, 9, 10] rfl ?_
  refine D_one 5 _ rfl kr rfl (op_cn (fun w hw => plus_f e0 e1 e2 (low (List.take 16 (List.drop 16 key)) 8) (low (List.take 8 (List.drop 24 key)) 8) (0#64) w (hok_nil w) (side_e (lst_lt hp))) (enters_of Tryz.func79 kr rfl) rfl rfl rfl rfl rfl (fun t60 q61 => ?_))
  obtain ⟨b0_62, b1_63, b2_64⟩ := t60
  have q61 : v3 b0_62 b1_63 b2_64 = v3 e0 e1 e2 + v3 (low (List.take 16 (List.drop 16 key)) 8) (low (List.take 8 (List.drop 24 key)) 8) (0#64) := q61
  refine D_on [0, 1, 2, 3, 4, 5, 6, 7, 8, 9, 10] rfl ?_
  refine D_one 6 _ rfl kr rfl (op_sto (n := 3) (vs := [(b64 b0_62), (b64 b1_63), (b64 b2_64)]) 4 rfl rfl kr (by simp [Value.oneCell']) kr kr rfl rfl rfl rfl ?_)
  refine D_past kr ?_
  refine D_done kr ?_
  refine lT ?_
  refine lO (pr_ixa (j := 0) (m' := 0) sd oM Tryz.underlying108 (z := 1) kr rfl rfl rfl) ?_
  refine lQ (ld_blk 0 rfl rfl Tryz.underlying23 rfl rfl rfl) ?_
  refine lO (pr_ixa (j := 1) (m' := 1) sd oM Tryz.underlying108 (z := 1) kr rfl rfl rfl) ?_
  refine lQ (ld_blk 0 rfl rfl Tryz.underlying23 rfl rfl rfl) ?_
  refine L_op rfl (op_bslice (e := 23) (zs := [(b64 b0_62), (b64 b1_63)]) (qs := [(0, (b64 b0_62)), (1, (b64 b1_63))]) (fun _ => by kernel_rfl) rfl rfl rfl rfl (fun g65 => ?_))
  refine L_op rfl (op_cn (fun w hw => eights_f [b0_62, b1_63] (some ⟨g65, 0, none⟩) 2 2 w (hok_cons ((src_full (z := 1) 0 rfl rfl sd sd) w hw) (hok_nil w)) (by rfl) sd) (enters_of Tryz.func53 kr rfl) rfl rfl rfl rfl rfl (fun t66 q67 => ?_))
  obtain ⟨B68, d69⟩ := t66
  refine lO (pr_s2a sd Tryz.underlying62 rfl rfl) ?_
  refine lQ (ld_aggs (ds := ((eib [b0_62, b1_63] 2).map b8)) (src_row 0 rfl) (List.take_length) (by have h1 : (((eib [b0_62, b1_63] 2).map b8)).length = 16 := sd; omega) Tryz.underlying62 rfl (fwz (n := 16) kr sd) rfl rfl) ?_
  refine L_op rfl (op_sto (n := 16) (vs := ((eib [b0_62, b1_63] 2).map b8)) 9 rfl rfl kr (all8_one _) kr sd rfl rfl rfl rfl ?_)
  refine L_nil ?_
  refine T_ret ?_
  refine T_as 0 _ (.blk g2 62 ((ptag key (catp Q)).map b8)) rfl (by rw [tag_fin rfl aS (lst_end hp oM) (ps_limbs key hkl)]) ?_
  exact T_finM 4 rfl () qN (resb 0 rfl rfl rfl Tryz.underlying62 rfl (fwz (n := 16) kr sd)) [] ⟨by decide, rfl⟩ rfl
 exact fun D t hq => hq.elim
end Go.Proofs.YtlplpmkdebemnaaGreat
namespace Go.Proofs.YtlplpmkdebemnaaGreat
open Bv Fw
def qa (a b c d : BitVec 32) : BitVec 32 := a + b + rol32 (b ^^^ (c + rol32 (d ^^^ (a + b)) 16)) 12
def qd (a b c d : BitVec 32) : BitVec 32 := rol32 (rol32 (d ^^^ (a + b)) 16 ^^^ qa a b c d) 8
def qc (a b c d : BitVec 32) : BitVec 32 := c + rol32 (d ^^^ (a + b)) 16 + qd a b c d
def qb (a b c d : BitVec 32) : BitVec 32 := rol32 (rol32 (b ^^^ (c + rol32 (d ^^^ (a + b)) 16)) 12 ^^^ qc a b c d) 7
def le32 (xs : List (BitVec 8)) (o : Nat) : BitVec 32 := (low (xs.drop o) 4).setWidth 32
theorem le32_def (xs : List (BitVec 8)) (o : Nat) : (low (xs.drop o) 4).setWidth 32 = le32 xs o := rfl
def cst0 : List (BitVec 32) := [1634760805#32, 857760878#32, 2036477234#32, 1797285236#32, 0#32, 0#32, 0#32, 0#32, 0#32, 0#32, 0#32, 0#32, 0#32, 0#32, 0#32, 0#32]
def cstA (key : List (BitVec 8)) : Nat → List (BitVec 32)
  | 0 => cst0
  | k + 1 => (cstA key k).set (4 + k) (le32 key (4 * k))
def cstB (key : List (BitVec 8)) (ctr : BitVec 32) (nonce : List (BitVec 8)) : Nat → List (BitVec 32)
  | 0 => (cstA key 8).set 12 ctr
  | k + 1 => (cstB key ctr nonce k).set (13 + k) (le32 nonce (4 * k))
theorem cstA_len (key : List (BitVec 8)) : ∀ k, (cstA key k).length = 16
  | 0 => rfl
  | k + 1 => by simp [cstA, cstA_len key k]
theorem cstB_len (key : List (BitVec 8)) (ctr : BitVec 32) (nonce : List (BitVec 8)) : ∀ k, (cstB key ctr nonce k).length = 16
  | 0 => by simp [cstB, cstA_len]
  | k + 1 => by simp [cstB, cstB_len key ctr nonce k]
theorem cstA_zero (key : List (BitVec 8)) : cstA key 0 = [1634760805#32, 857760878#32, 2036477234#32, 1797285236#32, 0#32, 0#32, 0#32, 0#32, 0#32, 0#32, 0#32, 0#32, 0#32, 0#32, 0#32, 0#32] := rfl
theorem cstA_succ (key : List (BitVec 8)) (k : Nat) : cstA key (k + 1) = (cstA key k).set (4 + k) (le32 key (4 * k)) := rfl
theorem cstB_zero (key : List (BitVec 8)) (ctr : BitVec 32) (nonce : List (BitVec 8)) : cstB key ctr nonce 0 = (cstA key 8).set 12 ctr := rfl
theorem cstB_succ (key : List (BitVec 8)) (ctr : BitVec 32) (nonce : List (BitVec 8)) (k : Nat) : cstB key ctr nonce (k + 1) = (cstB key ctr nonce k).set (13 + k) (le32 nonce (4 * k)) := rfl
theorem low_tk (xs : List (BitVec 8)) (n : Nat) : ∀ k, k ≤ n → low (xs.take n) k = low xs k
  | 0, _ => rfl
  | k + 1, h => by rw [low, low, low_tk xs n k oM, ath_take xs n k oM]
theorem word4_low (xs : List (BitVec 8)) : (ath xs 0).setWidth 32 ||| (ath xs 1).setWidth 32 <<< 8 ||| (ath xs 2).setWidth 32 <<< 16 ||| (ath xs 3).setWidth 32 <<< 24 = (low xs 4).setWidth 32 := by
  simp only [low, BitVec.setWidth_or, BitVec.setWidth_shiftLeft_of_le (show 32 ≤ 64 by omega), BitVec.setWidth_setWidth_of_le _ (show 32 ≤ 64 by omega), Nat.mul_zero, Nat.mul_one, BitVec.shiftLeft_zero]
  simp
def qr4 (s : List (BitVec 32)) (i j k l : Nat) : List (BitVec 32) :=
  (((s.set i (qa (ath s i) (ath s j) (ath s k) (ath s l))).set j (qb (ath s i) (ath s j) (ath s k) (ath s l))).set k (qc (ath s i) (ath s j) (ath s k) (ath s l))).set l (qd (ath s i) (ath s j) (ath s k) (ath s l))
theorem qr4_def (s : List (BitVec 32)) (i j k l : Nat) : (((s.set i (qa (ath s i) (ath s j) (ath s k) (ath s l))).set j (qb (ath s i) (ath s j) (ath s k) (ath s l))).set k (qc (ath s i) (ath s j) (ath s k) (ath s l))).set l (qd (ath s i) (ath s j) (ath s k) (ath s l)) = qr4 s i j k l := rfl
def colr (s : List (BitVec 32)) : Nat → List (BitVec 32)
  | 0 => s
  | k + 1 => qr4 (colr s k) k (4 + k) (8 + k) (12 + k)
def diar (s : List (BitVec 32)) : Nat → List (BitVec 32)
  | 0 => s
  | k + 1 => qr4 (diar s k) k (4 + (k + 1) % 4) (8 + (k + 2) % 4) (12 + (k + 3) % 4)
def crounds (s : List (BitVec 32)) : Nat → List (BitVec 32)
  | 0 => s
  | k + 1 => diar (colr (crounds s k) 4) 4
theorem qr4_len (s : List (BitVec 32)) (i j k l : Nat) : (qr4 s i j k l).length = s.length := by simp [qr4]
theorem colr_len (s : List (BitVec 32)) : ∀ k, (colr s k).length = s.length
  | 0 => rfl
  | k + 1 => by rw [colr, qr4_len, colr_len s k]
theorem diar_len (s : List (BitVec 32)) : ∀ k, (diar s k).length = s.length
  | 0 => rfl
  | k + 1 => by rw [diar, qr4_len, diar_len s k]
theorem crounds_len (s : List (BitVec 32)) : ∀ k, (crounds s k).length = s.length
  | 0 => rfl
  | k + 1 => by rw [crounds, diar_len, colr_len, crounds_len s k]
theorem colr_zero (s : List (BitVec 32)) : colr s 0 = s := rfl
theorem colr_succ (s : List (BitVec 32)) (k : Nat) : colr s (k + 1) = qr4 (colr s k) k (4 + k) (8 + k) (12 + k) := rfl
theorem diar_zero (s : List (BitVec 32)) : diar s 0 = s := rfl
theorem diar_succ (s : List (BitVec 32)) (k : Nat) : diar s (k + 1) = qr4 (diar s k) k (4 + (k + 1) % 4) (8 + (k + 2) % 4) (12 + (k + 3) % 4) := rfl
theorem crounds_zero (s : List (BitVec 32)) : crounds s 0 = s := rfl
theorem crounds_succ (s : List (BitVec 32)) (k : Nat) : crounds s (k + 1) = diar (colr (crounds s k) 4) 4 := rfl
theorem crounds_hand (s : List (BitVec 32)) (k : Nat) : crounds s (k + 1) =
    qr4 (qr4 (qr4 (qr4 (qr4 (qr4 (qr4 (qr4 (crounds s k) 0 4 8 12) 1 5 9 13) 2 6 10 14) 3 7 11 15) 0 5 10 15) 1 6 11 12) 2 7 8 13) 3 4 9 14 := rfl
def outb (x s : List (BitVec 32)) : Nat → List (BitVec 8)
  | 0 => []
  | k + 1 => outb x s k ++ lowb ((ath x k + ath s k).setWidth 64) 4
theorem outb_zero (x s : List (BitVec 32)) : outb x s 0 = [] := rfl
theorem outb_succ (x s : List (BitVec 32)) (k : Nat) : outb x s (k + 1) = outb x s k ++ lowb ((ath x k + ath s k).setWidth 64) 4 := rfl
theorem outb_len (x s : List (BitVec 32)) : ∀ k, (outb x s k).length = 4 * k
  | 0 => rfl
  | k + 1 => by rw [outb, List.length_append, outb_len x s k, lowb_len]; omega
def cblock (key : List (BitVec 8)) (ctr : BitVec 32) (nonce : List (BitVec 8)) : List (BitVec 8) :=
  outb (crounds (cstB key ctr nonce 3) 10) (cstB key ctr nonce 3) 16
theorem cblock_def (key : List (BitVec 8)) (ctr : BitVec 32) (nonce : List (BitVec 8)) : outb (crounds (cstB key ctr nonce 3) 10) (cstB key ctr nonce 3) 16 = cblock key ctr nonce := rfl
theorem cblock_len (key : List (BitVec 8)) (ctr : BitVec 32) (nonce : List (BitVec 8)) : (cblock key ctr nonce).length = 64 := outb_len _ _ 16
def obyte (x s : List (BitVec 32)) (i : Nat) : BitVec 8 := ((ath x (i / 4) + ath s (i / 4)) >>> (8 * (i % 4))).setWidth 8
def putb (x s : List (BitVec 32)) : Nat → List (BitVec 8)
  | 0 => List.replicate 64 0#8
  | k + 1 => (putb x s k).set k (obyte x s k)
theorem putb_zero (x s : List (BitVec 32)) : putb x s 0 = List.replicate 64 0#8 := rfl
theorem putb_succ (x s : List (BitVec 32)) (k : Nat) : putb x s (k + 1) = (putb x s k).set k (((ath x (k / 4) + ath s (k / 4)) >>> (8 * (k % 4))).setWidth 8) := rfl
theorem putb_len (x s : List (BitVec 32)) : ∀ k, (putb x s k).length = 64
  | 0 => rfl
  | k + 1 => by rw [putb, List.length_set, putb_len x s k]
theorem sw_shr (v : BitVec 32) (n : Nat) : ((v.setWidth 64) >>> n).setWidth 8 = (v >>> n).setWidth 8 := by
  ext i hi
  simp
  intro h
  exact BitVec.lt_of_getLsbD h |> fun _ => by omega
theorem outb_range (x s : List (BitVec 32)) : ∀ k, outb x s k = (List.range (4 * k)).map (obyte x s)
  | 0 => rfl
  | k + 1 => by
    rw [outb, outb_range x s k, show 4 * (k + 1) = 4 * k + 1 + 1 + 1 + 1 by omega]
    simp only [List.range_succ, List.map_append, List.append_assoc]
    congr 1
    simp only [lowb, obyte, sw_shr, List.nil_append, List.cons_append, List.map_cons, List.map_nil]
    rw [show 4 * k / 4 = k by omega, show (4 * k + 1) / 4 = k by omega, show (4 * k + 1 + 1) / 4 = k by omega, show (4 * k + 1 + 1 + 1) / 4 = k by omega,
      show 4 * k % 4 = 0 by omega, show (4 * k + 1) % 4 = 1 by omega, show (4 * k + 1 + 1) % 4 = 2 by omega, show (4 * k + 1 + 1 + 1) % 4 = 3 by omega]
theorem putb_range (x s : List (BitVec 32)) : ∀ k, k ≤ 64 → putb x s k = (List.range k).map (obyte x s) ++ List.replicate (64 - k) 0#8
  | 0, _ => rfl
  | k + 1, h => by
    rw [putb, putb_range x s k oM, List.range_succ, List.map_append, show 64 - k = (64 - (k + 1)) + 1 by omega, List.replicate_succ]
    rw [List.set_append_right _ _ (by simp)]
    simp
theorem putb_outb (x s : List (BitVec 32)) : putb x s 64 = outb x s 16 := by
  rw [putb_range x s 64 (Nat.le_refl _), outb_range]; simp
def xorb (key nonce : List (BitVec 8)) (ctr : BitVec 32) (xs : List (BitVec 8)) : Nat → List (BitVec 8)
  | 0 => []
  | k + 1 => xorb key nonce ctr xs k ++ [ath xs k ^^^ ath (cblock key (ctr + BitVec.ofNat 32 (k / 64)) nonce) (k % 64)]
theorem xorb_zero (key nonce : List (BitVec 8)) (ctr : BitVec 32) (xs : List (BitVec 8)) : xorb key nonce ctr xs 0 = [] := rfl
theorem xorb_succ (key nonce : List (BitVec 8)) (ctr : BitVec 32) (xs : List (BitVec 8)) (k : Nat) : xorb key nonce ctr xs (k + 1) = xorb key nonce ctr xs k ++ [ath xs k ^^^ ath (cblock key (ctr + BitVec.ofNat 32 (k / 64)) nonce) (k % 64)] := rfl
theorem xorb_len (key nonce : List (BitVec 8)) (ctr : BitVec 32) (xs : List (BitVec 8)) : ∀ k, (xorb key nonce ctr xs k).length = k
  | 0 => rfl
  | k + 1 => by rw [xorb, List.length_append, xorb_len key nonce ctr xs k]; rfl
theorem xorb_at (key nonce : List (BitVec 8)) (ctr : BitVec 32) (xs : List (BitVec 8)) : ∀ n j, j < n → ath (xorb key nonce ctr xs n) j = ath xs j ^^^ ath (cblock key (ctr + BitVec.ofNat 32 (j / 64)) nonce) (j % 64)
  | 0, j, h => by omega
  | n + 1, j, h => by
    rw [xorb]
    by_cases hj : j < n
    · rw [ath_app_l _ _ _ (by rw [xorb_len]; exact hj), xorb_at key nonce ctr xs n j hj]
    · obtain rfl : j = n := by omega
      rw [ath_app_r _ _ _ (by rw [xorb_len]; omega), xorb_len, Nat.sub_self]; rfl
def cxor (key nonce : List (BitVec 8)) (ctr : BitVec 32) (xs : List (BitVec 8)) : List (BitVec 8) := xorb key nonce ctr xs xs.length
theorem cxor_def (key nonce : List (BitVec 8)) (ctr : BitVec 32) (xs : List (BitVec 8)) (n : Nat) (h : xs.length = n) : xorb key nonce ctr xs n = cxor key nonce ctr xs := by subst h; rfl
theorem cxor_len (key nonce : List (BitVec 8)) (ctr : BitVec 32) (xs : List (BitVec 8)) : (cxor key nonce ctr xs).length = xs.length := xorb_len _ _ _ _ _
theorem cxor_at (key nonce : List (BitVec 8)) (ctr : BitVec 32) (xs : List (BitVec 8)) (j : Nat) (h : j < xs.length) : ath (cxor key nonce ctr xs) j = ath xs j ^^^ ath (cblock key (ctr + BitVec.ofNat 32 (j / 64)) nonce) (j % 64) := xorb_at _ _ _ _ _ _ h
theorem cxor_cxor (key nonce : List (BitVec 8)) (ctr : BitVec 32) (xs : List (BitVec 8)) : cxor key nonce ctr (cxor key nonce ctr xs) = xs := by
  refine ext_ath (by rw [cxor_len, cxor_len]) (fun j hj => ?_)
  rw [cxor_len, cxor_len] at hj
  rw [cxor_at _ _ _ _ _ (by rw [cxor_len]; exact hj), cxor_at _ _ _ _ _ hj, BitVec.xor_assoc, BitVec.xor_self, BitVec.xor_zero]
attribute [irreducible] qa qb qc qd le32 cstA cstB qr4 colr diar crounds outb cblock putb xorb cxor
end Go.Proofs.YtlplpmkdebemnaaGreat
namespace Go.Proofs.YtlplpmkdebemnaaGreat
set_option maxRecDepth 100000
open Go.RowKit Bv Fw
set_option maxHeartbeats 4000000 in
theorem left_f (x : BitVec 32) (n : Nat) (w : World) (hO : HOK [] w) (h0 : 0 < n) (h1 : n < 32) : Calls Tryz.prog 102 [(b32 x), (.int .i64 ((n : Nat) : Int))].toArray w (Ret (T := Unit) [] w (fun _ => True) (fun _ => (b32 (rol32 x n))) (fun _ => [])) := by
 refine enter (c := _) Tryz.func102 rfl [] _ [] (by rw [Tryz.ntmps102]; rfl) (own_rds hO rfl) ?_
 rw [Tryz.ntmps102]
 refine lE [(0, (b32 x)), (1, (.int .i64 ((n : Nat) : Int)))] ?_
 refine lH [] [] ?_
 refine lT ?_
 refine lS ?_
 refine lN ?_
 refine lM ?_
 refine lM ?_
 refine lO (pr_cv (ni_u64 (a := n) sd) Tryz.underlying3 Tryz.underlying39 rfl rfl) ?_
 refine lO (pr_shift (sh_shl32 x _ n) rfl rfl rfl rfl) ?_
 refine lM ?_
 refine lM ?_
 refine lO (pr_sub (ns_i64 (a := 32) (b := n) sd sd) rfl rfl rfl) ?_
 refine lO (pr_cv (ni_u64 (a := 32 - n) sd) Tryz.underlying3 Tryz.underlying39 rfl rfl) ?_
 refine lO (pr_shift (sh_shr32 x _ (32 - n)) rfl rfl rfl rfl) ?_
 refine lO (pr_or (ib_or32 _ _) rfl rfl rfl) ?_
 refine lS ?_
 refine L_nil ?_
 refine T_ret ?_
 refine T_slot 4 (b32 ((x <<< n) ||| (x >>> (32 - n)))) (b32 (rol32 x n)) rfl (by rfl) ?_
 exact T_fin () qN (res1 rfl rfl) [] ⟨by decide, rfl⟩ rfl
set_option maxHeartbeats 4000000 in
theorem quarter_f (a : BitVec 32) (b : BitVec 32) (c : BitVec 32) (d : BitVec 32) (w : World) (hO : HOK [] w)  : Calls Tryz.prog 75 [(b32 a), (b32 b), (b32 c), (b32 d)].toArray w (Ret (T := Unit) [] w (fun _ => True) (fun _ => (.tuple [(b32 (qa a b c d)), (b32 (qb a b c d)), (b32 (qc a b c d)), (b32 (qd a b c d))].toArray)) (fun _ => [])) := by
 refine enter (c := _) Tryz.func75 rfl [] _ [] (by rw [Tryz.ntmps75]; rfl) (own_rds hO rfl) ?_
 rw [Tryz.ntmps75]
 refine lE [(0, (b32 a)), (1, (b32 b)), (2, (b32 c)), (3, (b32 d))] ?_
 refine lH [] [] ?_
 refine lT ?_
 refine lS ?_
 refine lS ?_
 refine lS ?_
 refine lS ?_
 refine lN ?_
 refine lM ?_
 refine lM ?_
 refine lO (pr_add (add32 _ _) rfl rfl rfl) ?_
 refine lS ?_
 refine lN ?_
 refine lM ?_
 refine lM ?_
 refine lO (pr_xor (ib_xor32 _ _) rfl rfl rfl) ?_
 refine L_op rfl (op_cn (fun w hw => rotl32_f (d ^^^ (a + b)) ((16 : Nat) : Int) 16 w (hok_nil w) sd oM) (enters_of Tryz.func92 kr rfl) rfl rfl rfl rfl rfl (fun t1 q2 => ?_))
 refine lS ?_
 refine lN ?_
 refine lM ?_
 refine lM ?_
 refine lO (pr_add (add32 _ _) rfl rfl rfl) ?_
 refine lS ?_
 refine lN ?_
 refine lM ?_
 refine lM ?_
 refine lO (pr_xor (ib_xor32 _ _) rfl rfl rfl) ?_
 refine L_op rfl (op_cn (fun w hw => rotl32_f (b ^^^ (c + (rol32 (d ^^^ (a + b)) 16))) ((12 : Nat) : Int) 12 w (hok_nil w) sd oM) (enters_of Tryz.func92 kr rfl) rfl rfl rfl rfl rfl (fun t3 q4 => ?_))
 refine lS ?_
 refine lN ?_
 refine lM ?_
 refine lM ?_
 refine lO (pr_add (add32 _ _) rfl rfl rfl) ?_
 refine lS ?_
 refine lN ?_
 refine lM ?_
 refine lM ?_
 refine lO (pr_xor (ib_xor32 _ _) rfl rfl rfl) ?_
 refine L_op rfl (op_cn (fun w hw => rotl32_f ((rol32 (d ^^^ (a + b)) 16) ^^^ ((a + b) + (rol32 (b ^^^ (c + (rol32 (d ^^^ (a + b)) 16))) 12))) ((8 : Nat) : Int) 8 w (hok_nil w) sd oM) (enters_of Tryz.func92 kr rfl) rfl rfl rfl rfl rfl (fun t5 q6 => ?_))
 refine lS ?_
 refine lN ?_
 refine lM ?_
 refine lM ?_
 refine lO (pr_add (add32 _ _) rfl rfl rfl) ?_
 refine lS ?_
 refine lN ?_
 refine lM ?_
 refine lM ?_
 refine lO (pr_xor (ib_xor32 _ _) rfl rfl rfl) ?_
 refine L_op rfl (op_cn (fun w hw => rotl32_f ((rol32 (b ^^^ (c + (rol32 (d ^^^ (a + b)) 16))) 12) ^^^ ((c + (rol32 (d ^^^ (a + b)) 16)) + (rol32 ((rol32 (d ^^^ (a + b)) 16) ^^^ ((a + b) + (rol32 (b ^^^ (c + (rol32 (d ^^^ (a + b)) 16))) 12))) 8))) ((7 : Nat) : Int) 7 w (hok_nil w) sd oM) (enters_of Tryz.func92 kr rfl) rfl rfl rfl rfl rfl (fun t7 q8 => ?_))
 refine lS ?_
 refine lN ?_
 refine lM ?_
 refine lM ?_
 refine lM ?_
 refine lM ?_
 refine lS ?_
 refine lS ?_
 refine lS ?_
 refine lS ?_
 refine L_nil ?_
 refine T_ret ?_
 refine T_slot 8 _ (b32 (qa a b c d)) rfl (by unfold qa; rfl) ?_
 refine T_slot 9 _ (b32 (qb a b c d)) rfl (by unfold qb qc qd qa; rfl) ?_
 refine T_slot 10 _ (b32 (qc a b c d)) rfl (by unfold qc qd qa; rfl) ?_
 refine T_slot 11 _ (b32 (qd a b c d)) rfl (by unfold qd qa; rfl) ?_
 exact T_fin () qN (res4 rfl rfl rfl rfl rfl) [] ⟨by decide, rfl⟩ rfl
set_option maxHeartbeats 4000000 in
theorem rquarter_f (a : BitVec 32) (b : BitVec 32) (c : BitVec 32) (d : BitVec 32) (w : World) (hO : HOK [] w)  : Calls Tryz.prog 96 [(b32 a), (b32 b), (b32 c), (b32 d)].toArray w (Ret (T := Unit) [] w (fun _ => True) (fun _ => (.tuple [(b32 (qa a b c d)), (b32 (qb a b c d)), (b32 (qc a b c d)), (b32 (qd a b c d))].toArray)) (fun _ => [])) := by
 refine enter (c := _) Tryz.func96 rfl [] _ [] (by rw [Tryz.ntmps96]; rfl) (own_rds hO rfl) ?_
 rw [Tryz.ntmps96]
 refine lE [(0, (b32 a)), (1, (b32 b)), (2, (b32 c)), (3, (b32 d))] ?_
 refine lH [] [] ?_
 refine lT ?_
 refine lS ?_
 refine lS ?_
 refine lS ?_
 refine lS ?_
 refine lN ?_
 refine lM ?_
 refine lM ?_
 refine lO (pr_add (add32 _ _) rfl rfl rfl) ?_
 refine lS ?_
 refine lN ?_
 refine lM ?_
 refine lM ?_
 refine lO (pr_xor (ib_xor32 _ _) rfl rfl rfl) ?_
 refine L_op rfl (op_cn (fun w hw => left_f (d ^^^ (a + b)) 16 w (hok_nil w) sd sd) (enters_of Tryz.func102 kr rfl) rfl rfl rfl rfl rfl (fun t1 q2 => ?_))
 refine lS ?_
 refine lN ?_
 refine lM ?_
 refine lM ?_
 refine lO (pr_add (add32 _ _) rfl rfl rfl) ?_
 refine lS ?_
 refine lN ?_
 refine lM ?_
 refine lM ?_
 refine lO (pr_xor (ib_xor32 _ _) rfl rfl rfl) ?_
 refine L_op rfl (op_cn (fun w hw => left_f (b ^^^ (c + (rol32 (d ^^^ (a + b)) 16))) 12 w (hok_nil w) sd sd) (enters_of Tryz.func102 kr rfl) rfl rfl rfl rfl rfl (fun t3 q4 => ?_))
 refine lS ?_
 refine lN ?_
 refine lM ?_
 refine lM ?_
 refine lO (pr_add (add32 _ _) rfl rfl rfl) ?_
 refine lS ?_
 refine lN ?_
 refine lM ?_
 refine lM ?_
 refine lO (pr_xor (ib_xor32 _ _) rfl rfl rfl) ?_
 refine L_op rfl (op_cn (fun w hw => left_f ((rol32 (d ^^^ (a + b)) 16) ^^^ ((a + b) + (rol32 (b ^^^ (c + (rol32 (d ^^^ (a + b)) 16))) 12))) 8 w (hok_nil w) sd sd) (enters_of Tryz.func102 kr rfl) rfl rfl rfl rfl rfl (fun t5 q6 => ?_))
 refine lS ?_
 refine lN ?_
 refine lM ?_
 refine lM ?_
 refine lO (pr_add (add32 _ _) rfl rfl rfl) ?_
 refine lS ?_
 refine lN ?_
 refine lM ?_
 refine lM ?_
 refine lO (pr_xor (ib_xor32 _ _) rfl rfl rfl) ?_
 refine L_op rfl (op_cn (fun w hw => left_f ((rol32 (b ^^^ (c + (rol32 (d ^^^ (a + b)) 16))) 12) ^^^ ((c + (rol32 (d ^^^ (a + b)) 16)) + (rol32 ((rol32 (d ^^^ (a + b)) 16) ^^^ ((a + b) + (rol32 (b ^^^ (c + (rol32 (d ^^^ (a + b)) 16))) 12))) 8))) 7 w (hok_nil w) sd sd) (enters_of Tryz.func102 kr rfl) rfl rfl rfl rfl rfl (fun t7 q8 => ?_))
 refine lS ?_
 refine lN ?_
 refine lM ?_
 refine lM ?_
 refine lM ?_
 refine lM ?_
 refine lS ?_
 refine lS ?_
 refine lS ?_
 refine lS ?_
 refine L_nil ?_
 refine T_ret ?_
 refine T_slot 8 _ (b32 (qa a b c d)) rfl (by unfold qa; rfl) ?_
 refine T_slot 9 _ (b32 (qb a b c d)) rfl (by unfold qb qc qd qa; rfl) ?_
 refine T_slot 10 _ (b32 (qc a b c d)) rfl (by unfold qc qd qa; rfl) ?_
 refine T_slot 11 _ (b32 (qd a b c d)) rfl (by unfold qd qa; rfl) ?_
 exact T_fin () qN (res4 rfl rfl rfl rfl rfl) [] ⟨by decide, rfl⟩ rfl
theorem ctr_next (ctr : BitVec 32) (k : Nat) : ctr + BitVec.ofNat 32 k + 1#32 = ctr + BitVec.ofNat 32 (k + 1) := by
  rw [BitVec.add_assoc, BitVec.ofNat_add]
theorem ctr_zero (ctr : BitVec 32) : ctr + BitVec.ofNat 32 0 = ctr := by simp
theorem cq16 {s : List (BitVec 32)} {i j k l : Nat} (h : s.length = 16) : (qr4 s i j k l).length = 16 := by rw [qr4_len, h]
theorem cc16 {s : List (BitVec 32)} {k : Nat} (h : s.length = 16) : (colr s k).length = 16 := by rw [colr_len, h]
theorem cd16 {s : List (BitVec 32)} {k : Nat} (h : s.length = 16) : (diar s k).length = 16 := by rw [diar_len, h]
set_option maxHeartbeats 4000000 in
theorem cstate_f (key : List (BitVec 8)) (ctr : BitVec 32) (nonce : List (BitVec 8)) (w : World) (hO : HOK [] w) (hk : key.length = 32) (hn : nonce.length = 12) : Calls Tryz.prog 74 [(.agg (key.map b8).toArray), (b32 ctr), (.agg (nonce.map b8).toArray)].toArray w (Ret (T := Unit) [] w (fun _ => True) (fun _ => (.agg ((cstB key ctr nonce 3).map b32).toArray)) (fun _ => [])) := by
 have hsa := cstA_len key
 have hsb := cstB_len key ctr nonce
 have hcr := fun k => (crounds_len (cstB key ctr nonce 3) k).trans (hsb 3)
 have hbl := cblock_len key ctr nonce
 refine enter (c := _) Tryz.func74 rfl [] _ [] (by rw [Tryz.ntmps74]; rfl) (own_rds hO rfl) ?_
 rw [Tryz.ntmps74]
 refine lE [(0, (.agg (key.map b8).toArray)), (1, (b32 ctr)), (2, (.agg (nonce.map b8).toArray))] ?_
 refine lH [] [] ?_
 refine lT ?_
 refine L_op rfl (op_box (zs := (key.map b8)) rfl rfl rfl rfl rfl (fun g1 => ?_))
 refine L_op rfl (op_box (zs := (nonce.map b8)) rfl rfl rfl rfl rfl (fun g2 => ?_))
 refine L_op rfl (op_alloc (z := .agg ((List.replicate 16 0#32).map b32).toArray) (zs := ((List.replicate 16 0#32).map b32)) kr rfl rfl rfl rfl (fun g3 => ?_))
 refine lN ?_
 refine lO (pr_build (qs := [(0, (b32 (1634760805#32))), (1, (b32 (857760878#32))), (2, (b32 (2036477234#32))), (3, (b32 (1797285236#32)))]) (v := .agg ([1634760805#32, 857760878#32, 2036477234#32, 1797285236#32, 0#32, 0#32, 0#32, 0#32, 0#32, 0#32, 0#32, 0#32, 0#32, 0#32, 0#32, 0#32].map b32).toArray) (fun _ => by kernel_rfl) rfl rfl) ?_
 refine L_op rfl (op_alloc (z := .agg ((List.replicate 16 0#32).map b32).toArray) (zs := ((List.replicate 16 0#32).map b32)) kr rfl rfl rfl rfl (fun g4 => ?_))
 refine L_op rfl (op_sto (n := 16) (vs := ([1634760805#32, 857760878#32, 2036477234#32, 1797285236#32, 0#32, 0#32, 0#32, 0#32, 0#32, 0#32, 0#32, 0#32, 0#32, 0#32, 0#32, 0#32].map b32)) 0 rfl rfl kr (all32_one _) kr kr rfl rfl rfl rfl ?_)
 refine L_nil ?_
 refine T_seq ?_
 refine lT ?_
 refine lM ?_
 refine L_nil ?_
 refine T_block ?_
 refine T_as 0 _ (.blk g4 101 ((cstA key 0).map b32)) rfl (by rw [cstA_zero]) ?_
 refine T_loop (T := Nat) (fun i => i ≤ 8) (fun i => [(1, (b32 ctr)), (3, (.pointer (some ⟨g1, 0, none⟩))), (5, (.pointer (some ⟨g2, 0, none⟩))), (6, (.pointer (some ⟨g3, 0, none⟩))), (7, (.pointer (some ⟨g4, 0, none⟩))), (11, (.int .i64 ((i : Nat) : Int)))]) (fun i => [.blk g4 101 ((cstA key i).map b32), .blk g3 101 ((List.replicate 16 0#32).map b32), .blk g2 43 (nonce.map b8), .blk g1 22 (key.map b8)]) (fun i => 8 - i) 0 pN (sc rfl (sc rfl (sc rfl (sc rfl (sc rfl (sc rfl sn)))))) [0, 1, 2, 3] ⟨by decide, rfl⟩ ?_
 rintro i hp
 have hp : i ≤ 8 := hp
 have hsi := hsa i
 refine lE [(1, (b32 ctr)), (3, (.pointer (some ⟨g1, 0, none⟩))), (5, (.pointer (some ⟨g2, 0, none⟩))), (6, (.pointer (some ⟨g3, 0, none⟩))), (7, (.pointer (some ⟨g4, 0, none⟩))), (11, (.int .i64 ((i : Nat) : Int)))] ?_
 refine lH [0, 1, 2, 3] [.blk g4 101 ((cstA key i).map b32), .blk g3 101 ((List.replicate 16 0#32).map b32), .blk g2 43 (nonce.map b8), .blk g1 22 (key.map b8)] ?_
 refine lT ?_
 refine lO (pr_cmp (bo := .lss) (nc_lt (a := i) (b := 8)) rfl rfl rfl rfl) ?_
 refine L_nil ?_
 refine T_seq ?_
 refine T_cond (decide (i < 8)) rfl (fun hc_5 => ?_) (fun hc_5 => ?_)
 ·have hc_5 := of_decide_eq_true hc_5
  refine T_skip ?_
  refine T_seq ?_
  refine T_block ?_
  refine lT ?_
  refine lM ?_
  refine lS ?_
  refine L_nil ?_
  refine lR ?_
  refine lM ?_
  refine lO (pr_add (na_i64 (a := 4) (b := i) sd) rfl rfl rfl) ?_
  refine lM ?_
  refine lO (pr_mul (nm_i64 (a := 4) (b := i) sd) rfl rfl rfl) ?_
  refine lO (pr_sla (l := 4 * i) (u := 32) (m := 4 * i) sd sd sd oM Tryz.underlying22 (z := 1) kr rfl rfl ⟨_, rfl⟩ rfl) ?_
  refine L_op rfl (op_cn (fun w hw => low_f (List.take (32 - (4 * i)) (List.drop (4 * i) key)) 4 (some ⟨g1, 4 * i, none⟩) (32 - (4 * i)) (32 - (4 * i)) w (hok_cons ((src_sub 3 rfl sd sd sd) w hw) (hok_nil w)) sd sd sd) (enters_of Tryz.func68 kr rfl) rfl rfl rfl rfl rfl (fun t6 q7 => ?_))
  refine lO (pr_cv (cv64_32 _) Tryz.underlying23 Tryz.underlying61 rfl rfl) ?_
  refine lO (pr_ixa (j := 4 + i) (m' := 4 + i) sd oM Tryz.underlying101 (z := 1) kr rfl rfl rfl) ?_
  refine L_op rfl (op_store (vs := [(b32 ((low (List.take (32 - (4 * i)) (List.drop (4 * i) key)) 4).setWidth 32))]) (cs' := ((List.set (cstA key i) (4 + i) ((low (List.take (32 - (4 * i)) (List.drop (4 * i) key)) 4).setWidth 32)).map b32)) 0 rfl rfl kr (one_one rfl) (stl sd) (splice_map (f := b32) sd) rfl rfl rfl rfl ?_)
  refine L_nil ?_
  refine lR ?_
  refine lO (pr_add (na_i64 (a := i) (b := 1) sd) rfl rfl rfl) ?_
  refine lM ?_
  refine L_nil ?_
  refine T_as 0 _ (.blk g4 101 ((cstA key (i + 1)).map b32)) rfl (by rw [cstA_succ, low_tk _ _ 4 oM, le32_def]) ?_
  exact T_again (i + 1) pN pN (sc rfl (sc rfl (sc rfl (sc rfl (sc rfl (sc rfl sn)))))) [0, 1, 2, 3] ⟨by decide, rfl⟩
 have hc_5 := of_decide_eq_false hc_5
 refine T_exit rfl ?_
 obtain rfl : 8 = i := by omega
 refine lT ?_
 refine lM ?_
 refine lO (pr_ixa (j := 12) (m' := 12) sd oM Tryz.underlying101 (z := 1) kr rfl rfl rfl) ?_
 refine L_op rfl (op_store (vs := [(b32 ctr)]) (cs' := ((List.set (cstA key 8) 12 ctr).map b32)) 0 rfl rfl kr (one_one rfl) (stl sd) (splice_map (f := b32) sd) rfl rfl rfl rfl ?_)
 refine L_nil ?_
 refine T_seq ?_
 refine lT ?_
 refine lM ?_
 refine L_nil ?_
 refine T_block ?_
 refine T_as 0 _ (.blk g4 101 ((cstB key ctr nonce 0).map b32)) rfl (by rw [cstB_zero]) ?_
 refine T_loop (T := Nat) (fun i => i ≤ 3) (fun i => [(5, (.pointer (some ⟨g2, 0, none⟩))), (6, (.pointer (some ⟨g3, 0, none⟩))), (7, (.pointer (some ⟨g4, 0, none⟩))), (25, (.int .i64 ((i : Nat) : Int)))]) (fun i => [.blk g4 101 ((cstB key ctr nonce i).map b32), .blk g3 101 ((List.replicate 16 0#32).map b32), .blk g2 43 (nonce.map b8), .blk g1 22 (key.map b8)]) (fun i => 3 - i) 0 pN (sc rfl (sc rfl (sc rfl (sc rfl sn)))) [0, 1, 2, 3] ⟨by decide, rfl⟩ ?_
 rintro i hp
 have hp : i ≤ 3 := hp
 have hsj := hsb i
 refine lE [(5, (.pointer (some ⟨g2, 0, none⟩))), (6, (.pointer (some ⟨g3, 0, none⟩))), (7, (.pointer (some ⟨g4, 0, none⟩))), (25, (.int .i64 ((i : Nat) : Int)))] ?_
 refine lH [0, 1, 2, 3] [.blk g4 101 ((cstB key ctr nonce i).map b32), .blk g3 101 ((List.replicate 16 0#32).map b32), .blk g2 43 (nonce.map b8), .blk g1 22 (key.map b8)] ?_
 refine lT ?_
 refine lO (pr_cmp (bo := .lss) (nc_lt (a := i) (b := 3)) rfl rfl rfl rfl) ?_
 refine L_nil ?_
 refine T_seq ?_
 refine T_cond (decide (i < 3)) rfl (fun hc_8 => ?_) (fun hc_8 => ?_)
 ·have hc_8 := of_decide_eq_true hc_8
  refine T_skip ?_
  refine T_seq ?_
  refine T_block ?_
  refine lT ?_
  refine lM ?_
  refine lS ?_
  refine L_nil ?_
  refine lR ?_
  refine lM ?_
  refine lO (pr_add (na_i64 (a := 13) (b := i) sd) rfl rfl rfl) ?_
  refine lM ?_
  refine lO (pr_mul (nm_i64 (a := 4) (b := i) sd) rfl rfl rfl) ?_
  refine lO (pr_sla (l := 4 * i) (u := 12) (m := 4 * i) sd sd sd oM Tryz.underlying43 (z := 1) kr rfl rfl ⟨_, rfl⟩ rfl) ?_
  refine L_op rfl (op_cn (fun w hw => low_f (List.take (12 - (4 * i)) (List.drop (4 * i) nonce)) 4 (some ⟨g2, 4 * i, none⟩) (12 - (4 * i)) (12 - (4 * i)) w (hok_cons ((src_sub 2 rfl sd sd sd) w hw) (hok_nil w)) sd sd sd) (enters_of Tryz.func68 kr rfl) rfl rfl rfl rfl rfl (fun t9 q10 => ?_))
  refine lO (pr_cv (cv64_32 _) Tryz.underlying23 Tryz.underlying61 rfl rfl) ?_
  refine lO (pr_ixa (j := 13 + i) (m' := 13 + i) sd oM Tryz.underlying101 (z := 1) kr rfl rfl rfl) ?_
  refine L_op rfl (op_store (vs := [(b32 ((low (List.take (12 - (4 * i)) (List.drop (4 * i) nonce)) 4).setWidth 32))]) (cs' := ((List.set (cstB key ctr nonce i) (13 + i) ((low (List.take (12 - (4 * i)) (List.drop (4 * i) nonce)) 4).setWidth 32)).map b32)) 0 rfl rfl kr (one_one rfl) (stl sd) (splice_map (f := b32) sd) rfl rfl rfl rfl ?_)
  refine L_nil ?_
  refine lR ?_
  refine lO (pr_add (na_i64 (a := i) (b := 1) sd) rfl rfl rfl) ?_
  refine lM ?_
  refine L_nil ?_
  refine T_as 0 _ (.blk g4 101 ((cstB key ctr nonce (i + 1)).map b32)) rfl (by rw [cstB_succ, low_tk _ _ 4 oM, le32_def]) ?_
  exact T_again (i + 1) pN pN (sc rfl (sc rfl (sc rfl (sc rfl sn)))) [0, 1, 2, 3] ⟨by decide, rfl⟩
 have hc_8 := of_decide_eq_false hc_8
 refine T_exit rfl ?_
 obtain rfl : 3 = i := by omega
 refine lT ?_
 refine lQ (ld_agg (ds := ((cstB key ctr nonce 3).map b32)) 0 rfl agg_all Tryz.underlying101 rfl (fwz (n := 16) kr sd) rfl rfl) ?_
 refine L_op rfl (op_sto (n := 16) (vs := ((cstB key ctr nonce 3).map b32)) 1 rfl rfl kr (all32_one _) kr sd rfl rfl rfl rfl ?_)
 refine L_nil ?_
 refine T_ret ?_
 exact T_fin () qN (resb 0 rfl rfl rfl Tryz.underlying101 rfl (fwz (n := 16) kr sd)) [] ⟨by decide, rfl⟩ rfl
set_option maxRecDepth 100000 in
set_option maxHeartbeats 4000000 in
theorem cblock_f (key : List (BitVec 8)) (ctr : BitVec 32) (nonce : List (BitVec 8)) (w : World) (hO : HOK [] w) (hk : key.length = 32) (hn : nonce.length = 12) : Calls Tryz.prog 55 [(.agg (key.map b8).toArray), (b32 ctr), (.agg (nonce.map b8).toArray)].toArray w (Ret (T := Unit) [] w (fun _ => True) (fun _ => (.agg ((cblock key ctr nonce).map b8).toArray)) (fun _ => [])) := by
 have hsa := cstA_len key
 have hsb := cstB_len key ctr nonce
 have hcr := fun k => (crounds_len (cstB key ctr nonce 3) k).trans (hsb 3)
 have hbl := cblock_len key ctr nonce
 have hol := outb_len (crounds (cstB key ctr nonce 3) 10) (cstB key ctr nonce 3)
 have hF : Wid Fence.wide := wid_wide
 refine enter (c := _) Tryz.func55 rfl [] _ [] (by rw [Tryz.ntmps55]; rfl) (own_rds hO rfl) ?_
 rw [Tryz.ntmps55]
 refine lE [(0, (.agg (key.map b8).toArray)), (1, (b32 ctr)), (2, (.agg (nonce.map b8).toArray))] ?_
 refine lH [] [] ?_
 refine lT ?_
 refine L_op rfl (op_box (zs := (key.map b8)) rfl rfl rfl rfl rfl (fun g1 => ?_))
 refine L_op rfl (op_box (zs := (nonce.map b8)) rfl rfl rfl rfl rfl (fun g2 => ?_))
 refine L_op rfl (op_alloc (z := .agg ((List.replicate 64 0#8).map b8).toArray) (zs := ((List.replicate 64 0#8).map b8)) kr rfl rfl rfl rfl (fun g3 => ?_))
 refine lN ?_
 refine lQ (ld_agg (ds := (key.map b8)) 2 rfl agg_all Tryz.underlying22 rfl (fwz (n := 32) kr sd) rfl rfl) ?_
 refine lM ?_
 refine lQ (ld_agg (ds := (nonce.map b8)) 1 rfl agg_all Tryz.underlying43 rfl (fwz (n := 12) kr sd) rfl rfl) ?_
 refine L_op rfl (op_cn (fun w hw => cstate_f key ctr nonce w (hok_nil w) aS aS) (enters_of Tryz.func74 kr rfl) rfl rfl rfl rfl rfl (fun t4 q5 => ?_))
 refine L_op rfl (op_alloc (z := .agg ((List.replicate 16 0#32).map b32).toArray) (zs := ((List.replicate 16 0#32).map b32)) kr rfl rfl rfl rfl (fun g6 => ?_))
 refine L_op rfl (op_sto (n := 16) (vs := ((cstB key ctr nonce 3).map b32)) 0 rfl rfl kr (all32_one _) kr sd rfl rfl rfl rfl ?_)
 refine lN ?_
 refine lQ (ld_agg (ds := ((cstB key ctr nonce 3).map b32)) 0 rfl agg_all Tryz.underlying101 rfl (fwz (n := 16) kr sd) rfl rfl) ?_
 refine L_op rfl (op_alloc (z := .agg ((List.replicate 16 0#32).map b32).toArray) (zs := ((List.replicate 16 0#32).map b32)) kr rfl rfl rfl rfl (fun g7 => ?_))
 refine L_op rfl (op_sto (n := 16) (vs := ((cstB key ctr nonce 3).map b32)) 0 rfl rfl kr (all32_one _) kr sd rfl rfl rfl rfl ?_)
 refine L_nil ?_
 refine T_seq ?_
 refine lT ?_
 refine lM ?_
 refine L_nil ?_
 refine T_block ?_
 refine T_as 0 _ (.blk g7 101 ((crounds (cstB key ctr nonce 3) 0).map b32)) rfl (by rw [crounds_zero]) ?_
 refine T_loop (T := Nat) (fun k => k ≤ 10) (fun k => [(6, (.pointer (some ⟨g3, 0, none⟩))), (7, (.pointer (some ⟨g6, 0, none⟩))), (8, (.pointer (some ⟨g7, 0, none⟩))), (21, (.int .i64 ((k : Nat) : Int)))]) (fun k => [.blk g7 101 ((crounds (cstB key ctr nonce 3) k).map b32), .blk g6 101 ((cstB key ctr nonce 3).map b32), .blk g3 83 ((List.replicate 64 0#8).map b8), .blk g2 43 (nonce.map b8), .blk g1 22 (key.map b8)]) (fun k => 10 - k) 0 pN (sc rfl (sc rfl (sc rfl (sc rfl sn)))) [0, 1, 2, 3, 4] ⟨by decide, rfl⟩ ?_
 rintro k hp
 have hp : k ≤ 10 := hp
 have hck := hcr k
 refine lE [(6, (.pointer (some ⟨g3, 0, none⟩))), (7, (.pointer (some ⟨g6, 0, none⟩))), (8, (.pointer (some ⟨g7, 0, none⟩))), (21, (.int .i64 ((k : Nat) : Int)))] ?_
 refine lH [0, 1, 2, 3, 4] [.blk g7 101 ((crounds (cstB key ctr nonce 3) k).map b32), .blk g6 101 ((cstB key ctr nonce 3).map b32), .blk g3 83 ((List.replicate 64 0#8).map b8), .blk g2 43 (nonce.map b8), .blk g1 22 (key.map b8)] ?_
 refine lT ?_
 refine lO (pr_cmp (bo := .lss) (nc_lt (a := k) (b := 10)) rfl rfl rfl rfl) ?_
 refine L_nil ?_
 refine T_seq ?_
 refine T_cond (decide (k < 10)) rfl (fun hc_8 => ?_) (fun hc_8 => ?_)
 ·have hc_8 := of_decide_eq_true hc_8
  refine T_skip ?_
  refine T_seq ?_
  refine T_block ?_
  refine T_seq ?_
  refine lT ?_
  refine lM ?_
  refine L_nil ?_
  refine T_block ?_
  refine T_as 0 _ (.blk g7 101 ((colr (crounds (cstB key ctr nonce 3) k) 0).map b32)) rfl (by rw [colr_zero]) ?_
  refine T_loop (T := Nat) (fun i => i ≤ 4) (fun i => [(6, (.pointer (some ⟨g3, 0, none⟩))), (7, (.pointer (some ⟨g6, 0, none⟩))), (8, (.pointer (some ⟨g7, 0, none⟩))), (21, (.int .i64 ((k : Nat) : Int))), (23, (.int .i64 ((i : Nat) : Int)))]) (fun i => [.blk g7 101 ((colr (crounds (cstB key ctr nonce 3) k) i).map b32), .blk g6 101 ((cstB key ctr nonce 3).map b32), .blk g3 83 ((List.replicate 64 0#8).map b8), .blk g2 43 (nonce.map b8), .blk g1 22 (key.map b8)]) (fun i => 4 - i) 0 pN (sc rfl (sc rfl (sc rfl (sc rfl (sc rfl sn))))) [0, 1, 2, 3, 4] ⟨by decide, rfl⟩ ?_
  rintro i hp
  have hp : i ≤ 4 := hp
  have hci := cc16 (k := i) hck
  refine lE [(6, (.pointer (some ⟨g3, 0, none⟩))), (7, (.pointer (some ⟨g6, 0, none⟩))), (8, (.pointer (some ⟨g7, 0, none⟩))), (21, (.int .i64 ((k : Nat) : Int))), (23, (.int .i64 ((i : Nat) : Int)))] ?_
  refine lH [0, 1, 2, 3, 4] [.blk g7 101 ((colr (crounds (cstB key ctr nonce 3) k) i).map b32), .blk g6 101 ((cstB key ctr nonce 3).map b32), .blk g3 83 ((List.replicate 64 0#8).map b8), .blk g2 43 (nonce.map b8), .blk g1 22 (key.map b8)] ?_
  refine lT ?_
  refine lO (pr_cmp (bo := .lss) (nc_lt (a := i) (b := 4)) rfl rfl rfl rfl) ?_
  refine L_nil ?_
  refine T_seq ?_
  refine T_cond (decide (i < 4)) rfl (fun hc_9 => ?_) (fun hc_9 => ?_)
  ·have hc_9 := of_decide_eq_true hc_9
   refine T_skip ?_
   refine T_seq ?_
   refine T_block ?_
   refine lT ?_
   refine lM ?_
   refine lS ?_
   refine L_nil ?_
   refine T_regD [.blk g7 101 ((colr (crounds (cstB key ctr nonce 3) k) i).map b32), .blk g6 101 ((cstB key ctr nonce 3).map b32), .blk g3 83 ((List.replicate 64 0#8).map b8), .blk g2 43 (nonce.map b8), .blk g1 22 (key.map b8)] 29 36 #[false, false, false, false, false, false, false, false, false, false, false, false, false, false, false, false, false, false, false, false, false, false, false, false, false, false, false, false, false, false, false, false, false, false, false, false] hF kr kr ?_
   refine D_pure (i := 0) [0, 1, 2, 3, 4] rfl kr rfl (pr_move rfl rfl) (.inr rfl) rfl rfl ?_
   refine D_pure (i := 1) [0, 1, 2, 3, 4] rfl kr rfl (pr_move rfl rfl) (.inr rfl) rfl rfl ?_
   refine D_pure (i := 2) [0, 1, 2, 3, 4] rfl kr rfl (pr_add (na_i64 (a := 4) (b := i) sd) rfl rfl rfl) (.inr rfl) rfl rfl ?_
   refine D_pure (i := 3) [0, 1, 2, 3, 4] rfl kr rfl (pr_move rfl rfl) (.inr rfl) rfl rfl ?_
   refine D_pure (i := 4) [0, 1, 2, 3, 4] rfl kr rfl (pr_add (na_i64 (a := 8) (b := i) sd) rfl rfl rfl) (.inr rfl) rfl rfl ?_
   refine D_pure (i := 5) [0, 1, 2, 3, 4] rfl kr rfl (pr_move rfl rfl) (.inr rfl) rfl rfl ?_
   refine D_pure (i := 6) [0, 1, 2, 3, 4] rfl kr rfl (pr_add (na_i64 (a := 12) (b := i) sd) rfl rfl rfl) (.inr rfl) rfl rfl ?_
   refine D_pure (i := 7) [0, 1, 2, 3, 4] rfl kr rfl (pr_move rfl rfl) (.inr rfl) rfl rfl ?_
   refine D_pure (i := 8) [0, 1, 2, 3, 4] rfl kr rfl (pr_ixa (j := i) (m' := i) sd oM Tryz.underlying101 (z := 1) kr rfl rfl rfl) (.inr rfl) rfl rfl ?_
   refine D_pure (i := 10) [0, 1, 2, 3, 4] rfl kr rfl (pr_move rfl rfl) (.inr rfl) rfl rfl ?_
   refine D_pure (i := 11) [0, 1, 2, 3, 4] rfl kr rfl (pr_add (na_i64 (a := 4) (b := i) sd) rfl rfl rfl) (.inr rfl) rfl rfl ?_
   refine D_pure (i := 12) [0, 1, 2, 3, 4] rfl kr rfl (pr_ixa (j := 4 + i) (m' := 4 + i) sd oM Tryz.underlying101 (z := 1) kr rfl rfl rfl) (.inr rfl) rfl rfl ?_
   refine D_pure (i := 14) [0, 1, 2, 3, 4] rfl kr rfl (pr_move rfl rfl) (.inr rfl) rfl rfl ?_
   refine D_pure (i := 15) [0, 1, 2, 3, 4] rfl kr rfl (pr_add (na_i64 (a := 8) (b := i) sd) rfl rfl rfl) (.inr rfl) rfl rfl ?_
   refine D_pure (i := 16) [0, 1, 2, 3, 4] rfl kr rfl (pr_ixa (j := 8 + i) (m' := 8 + i) sd oM Tryz.underlying101 (z := 1) kr rfl rfl rfl) (.inr rfl) rfl rfl ?_
   refine D_pure (i := 18) [0, 1, 2, 3, 4] rfl kr rfl (pr_move rfl rfl) (.inr rfl) rfl rfl ?_
   refine D_pure (i := 19) [0, 1, 2, 3, 4] rfl kr rfl (pr_add (na_i64 (a := 12) (b := i) sd) rfl rfl rfl) (.inr rfl) rfl rfl ?_
   refine D_pure (i := 20) [0, 1, 2, 3, 4] rfl kr rfl (pr_ixa (j := 12 + i) (m' := 12 + i) sd oM Tryz.underlying101 (z := 1) kr rfl rfl rfl) (.inr rfl) rfl rfl ?_
   refine D_take (i := 9) [0, 1, 2, 3, 4] rfl kr rfl (ld_blk 0 rfl (get32 sd) Tryz.underlying61 rfl rfl rfl) rfl rfl rfl ?_
   refine D_take (i := 13) [0, 1, 2, 3, 4] rfl kr rfl (ld_blk 0 rfl (get32 sd) Tryz.underlying61 rfl rfl rfl) rfl rfl rfl ?_
   refine D_take (i := 17) [0, 1, 2, 3, 4] rfl kr rfl (ld_blk 0 rfl (get32 sd) Tryz.underlying61 rfl rfl rfl) rfl rfl rfl ?_
   refine D_take (i := 21) [0, 1, 2, 3, 4] rfl kr rfl (ld_blk 0 rfl (get32 sd) Tryz.underlying61 rfl rfl rfl) rfl rfl rfl ?_
   refine D_one 22 _ rfl kr rfl (op_cn (fun w hw => quarter_f (ath (colr (crounds (cstB key ctr nonce 3) k) i) i) (ath (colr (crounds (cstB key ctr nonce 3) k) i) (4 + i)) (ath (colr (crounds (cstB key ctr nonce 3) k) i) (8 + i)) (ath (colr (crounds (cstB key ctr nonce 3) k) i) (12 + i)) w (hok_nil w) ) (enters_of Tryz.func75 kr rfl) rfl rfl rfl rfl rfl (fun t10 q11 => ?_))
   refine D_on [0, 1, 2, 3, 4] rfl ?_
   refine D_pure (i := 23) [0, 1, 2, 3, 4] rfl kr rfl (pr_move rfl rfl) (.inr rfl) rfl rfl ?_
   refine D_pure (i := 24) [0, 1, 2, 3, 4] rfl kr rfl (pr_ext (vs := [(b32 (qa (ath (colr (crounds (cstB key ctr nonce 3) k) i) i) (ath (colr (crounds (cstB key ctr nonce 3) k) i) (4 + i)) (ath (colr (crounds (cstB key ctr nonce 3) k) i) (8 + i)) (ath (colr (crounds (cstB key ctr nonce 3) k) i) (12 + i)))), (b32 (qb (ath (colr (crounds (cstB key ctr nonce 3) k) i) i) (ath (colr (crounds (cstB key ctr nonce 3) k) i) (4 + i)) (ath (colr (crounds (cstB key ctr nonce 3) k) i) (8 + i)) (ath (colr (crounds (cstB key ctr nonce 3) k) i) (12 + i)))), (b32 (qc (ath (colr (crounds (cstB key ctr nonce 3) k) i) i) (ath (colr (crounds (cstB key ctr nonce 3) k) i) (4 + i)) (ath (colr (crounds (cstB key ctr nonce 3) k) i) (8 + i)) (ath (colr (crounds (cstB key ctr nonce 3) k) i) (12 + i)))), (b32 (qd (ath (colr (crounds (cstB key ctr nonce 3) k) i) i) (ath (colr (crounds (cstB key ctr nonce 3) k) i) (4 + i)) (ath (colr (crounds (cstB key ctr nonce 3) k) i) (8 + i)) (ath (colr (crounds (cstB key ctr nonce 3) k) i) (12 + i))))]) rfl rfl rfl) (.inr rfl) rfl rfl ?_
   refine D_pure (i := 25) [0, 1, 2, 3, 4] rfl kr rfl (pr_ext (vs := [(b32 (qa (ath (colr (crounds (cstB key ctr nonce 3) k) i) i) (ath (colr (crounds (cstB key ctr nonce 3) k) i) (4 + i)) (ath (colr (crounds (cstB key ctr nonce 3) k) i) (8 + i)) (ath (colr (crounds (cstB key ctr nonce 3) k) i) (12 + i)))), (b32 (qb (ath (colr (crounds (cstB key ctr nonce 3) k) i) i) (ath (colr (crounds (cstB key ctr nonce 3) k) i) (4 + i)) (ath (colr (crounds (cstB key ctr nonce 3) k) i) (8 + i)) (ath (colr (crounds (cstB key ctr nonce 3) k) i) (12 + i)))), (b32 (qc (ath (colr (crounds (cstB key ctr nonce 3) k) i) i) (ath (colr (crounds (cstB key ctr nonce 3) k) i) (4 + i)) (ath (colr (crounds (cstB key ctr nonce 3) k) i) (8 + i)) (ath (colr (crounds (cstB key ctr nonce 3) k) i) (12 + i)))), (b32 (qd (ath (colr (crounds (cstB key ctr nonce 3) k) i) i) (ath (colr (crounds (cstB key ctr nonce 3) k) i) (4 + i)) (ath (colr (crounds (cstB key ctr nonce 3) k) i) (8 + i)) (ath (colr (crounds (cstB key ctr nonce 3) k) i) (12 + i))))]) rfl rfl rfl) (.inr rfl) rfl rfl ?_
   refine D_pure (i := 26) [0, 1, 2, 3, 4] rfl kr rfl (pr_ext (vs := [(b32 (qa (ath (colr (crounds (cstB key ctr nonce 3) k) i) i) (ath (colr (crounds (cstB key ctr nonce 3) k) i) (4 + i)) (ath (colr (crounds (cstB key ctr nonce 3) k) i) (8 + i)) (ath (colr (crounds (cstB key ctr nonce 3) k) i) (12 + i)))), (b32 (qb (ath (colr (crounds (cstB key ctr nonce 3) k) i) i) (ath (colr (crounds (cstB key ctr nonce 3) k) i) (4 + i)) (ath (colr (crounds (cstB key ctr nonce 3) k) i) (8 + i)) (ath (colr (crounds (cstB key ctr nonce 3) k) i) (12 + i)))), (b32 (qc (ath (colr (crounds (cstB key ctr nonce 3) k) i) i) (ath (colr (crounds (cstB key ctr nonce 3) k) i) (4 + i)) (ath (colr (crounds (cstB key ctr nonce 3) k) i) (8 + i)) (ath (colr (crounds (cstB key ctr nonce 3) k) i) (12 + i)))), (b32 (qd (ath (colr (crounds (cstB key ctr nonce 3) k) i) i) (ath (colr (crounds (cstB key ctr nonce 3) k) i) (4 + i)) (ath (colr (crounds (cstB key ctr nonce 3) k) i) (8 + i)) (ath (colr (crounds (cstB key ctr nonce 3) k) i) (12 + i))))]) rfl rfl rfl) (.inr rfl) rfl rfl ?_
   refine D_pure (i := 27) [0, 1, 2, 3, 4] rfl kr rfl (pr_ext (vs := [(b32 (qa (ath (colr (crounds (cstB key ctr nonce 3) k) i) i) (ath (colr (crounds (cstB key ctr nonce 3) k) i) (4 + i)) (ath (colr (crounds (cstB key ctr nonce 3) k) i) (8 + i)) (ath (colr (crounds (cstB key ctr nonce 3) k) i) (12 + i)))), (b32 (qb (ath (colr (crounds (cstB key ctr nonce 3) k) i) i) (ath (colr (crounds (cstB key ctr nonce 3) k) i) (4 + i)) (ath (colr (crounds (cstB key ctr nonce 3) k) i) (8 + i)) (ath (colr (crounds (cstB key ctr nonce 3) k) i) (12 + i)))), (b32 (qc (ath (colr (crounds (cstB key ctr nonce 3) k) i) i) (ath (colr (crounds (cstB key ctr nonce 3) k) i) (4 + i)) (ath (colr (crounds (cstB key ctr nonce 3) k) i) (8 + i)) (ath (colr (crounds (cstB key ctr nonce 3) k) i) (12 + i)))), (b32 (qd (ath (colr (crounds (cstB key ctr nonce 3) k) i) i) (ath (colr (crounds (cstB key ctr nonce 3) k) i) (4 + i)) (ath (colr (crounds (cstB key ctr nonce 3) k) i) (8 + i)) (ath (colr (crounds (cstB key ctr nonce 3) k) i) (12 + i))))]) rfl rfl rfl) (.inr rfl) rfl rfl ?_
   refine D_pure (i := 28) [0, 1, 2, 3, 4] rfl kr rfl (pr_ixa (j := i) (m' := i) sd oM Tryz.underlying101 (z := 1) kr rfl rfl rfl) (.inr rfl) rfl rfl ?_
   refine D_one 29 _ rfl kr rfl (op_store (vs := [(b32 (qa (ath (colr (crounds (cstB key ctr nonce 3) k) i) i) (ath (colr (crounds (cstB key ctr nonce 3) k) i) (4 + i)) (ath (colr (crounds (cstB key ctr nonce 3) k) i) (8 + i)) (ath (colr (crounds (cstB key ctr nonce 3) k) i) (12 + i))))]) (cs' := ((List.set (colr (crounds (cstB key ctr nonce 3) k) i) i (qa (ath (colr (crounds (cstB key ctr nonce 3) k) i) i) (ath (colr (crounds (cstB key ctr nonce 3) k) i) (4 + i)) (ath (colr (crounds (cstB key ctr nonce 3) k) i) (8 + i)) (ath (colr (crounds (cstB key ctr nonce 3) k) i) (12 + i)))).map b32)) 0 rfl rfl kr (one_one rfl) (stl sd) (splice_map (f := b32) sd) rfl rfl rfl rfl ?_)
   refine D_past kr ?_
   refine D_pure (i := 30) [] rfl kr rfl (pr_ixa (j := 4 + i) (m' := 4 + i) sd oM Tryz.underlying101 (z := 1) kr rfl rfl rfl) (.inl kr) rfl rfl ?_
   refine D_one 31 _ rfl kr rfl (op_store (vs := [(b32 (qb (ath (colr (crounds (cstB key ctr nonce 3) k) i) i) (ath (colr (crounds (cstB key ctr nonce 3) k) i) (4 + i)) (ath (colr (crounds (cstB key ctr nonce 3) k) i) (8 + i)) (ath (colr (crounds (cstB key ctr nonce 3) k) i) (12 + i))))]) (cs' := ((List.set (List.set (colr (crounds (cstB key ctr nonce 3) k) i) i (qa (ath (colr (crounds (cstB key ctr nonce 3) k) i) i) (ath (colr (crounds (cstB key ctr nonce 3) k) i) (4 + i)) (ath (colr (crounds (cstB key ctr nonce 3) k) i) (8 + i)) (ath (colr (crounds (cstB key ctr nonce 3) k) i) (12 + i)))) (4 + i) (qb (ath (colr (crounds (cstB key ctr nonce 3) k) i) i) (ath (colr (crounds (cstB key ctr nonce 3) k) i) (4 + i)) (ath (colr (crounds (cstB key ctr nonce 3) k) i) (8 + i)) (ath (colr (crounds (cstB key ctr nonce 3) k) i) (12 + i)))).map b32)) 0 rfl rfl kr (one_one rfl) (stl sd) (splice_map (f := b32) sd) rfl rfl rfl rfl ?_)
   refine D_past kr ?_
   refine D_pure (i := 32) [] rfl kr rfl (pr_ixa (j := 8 + i) (m' := 8 + i) sd oM Tryz.underlying101 (z := 1) kr rfl rfl rfl) (.inl kr) rfl rfl ?_
   refine D_one 33 _ rfl kr rfl (op_store (vs := [(b32 (qc (ath (colr (crounds (cstB key ctr nonce 3) k) i) i) (ath (colr (crounds (cstB key ctr nonce 3) k) i) (4 + i)) (ath (colr (crounds (cstB key ctr nonce 3) k) i) (8 + i)) (ath (colr (crounds (cstB key ctr nonce 3) k) i) (12 + i))))]) (cs' := ((List.set (List.set (List.set (colr (crounds (cstB key ctr nonce 3) k) i) i (qa (ath (colr (crounds (cstB key ctr nonce 3) k) i) i) (ath (colr (crounds (cstB key ctr nonce 3) k) i) (4 + i)) (ath (colr (crounds (cstB key ctr nonce 3) k) i) (8 + i)) (ath (colr (crounds (cstB key ctr nonce 3) k) i) (12 + i)))) (4 + i) (qb (ath (colr (crounds (cstB key ctr nonce 3) k) i) i) (ath (colr (crounds (cstB key ctr nonce 3) k) i) (4 + i)) (ath (colr (crounds (cstB key ctr nonce 3) k) i) (8 + i)) (ath (colr (crounds (cstB key ctr nonce 3) k) i) (12 + i)))) (8 + i) (qc (ath (colr (crounds (cstB key ctr nonce 3) k) i) i) (ath (colr (crounds (cstB key ctr nonce 3) k) i) (4 + i)) (ath (colr (crounds (cstB key ctr nonce 3) k) i) (8 + i)) (ath (colr (crounds (cstB key ctr nonce 3) k) i) (12 + i)))).map b32)) 0 rfl rfl kr (one_one rfl) (stl sd) (splice_map (f := b32) sd) rfl rfl rfl rfl ?_)
   refine D_past kr ?_
   refine D_pure (i := 34) [] rfl kr rfl (pr_ixa (j := 12 + i) (m' := 12 + i) sd oM Tryz.underlying101 (z := 1) kr rfl rfl rfl) (.inl kr) rfl rfl ?_
   refine D_one 35 _ rfl kr rfl (op_store (vs := [(b32 (qd (ath (colr (crounds (cstB key ctr nonce 3) k) i) i) (ath (colr (crounds (cstB key ctr nonce 3) k) i) (4 + i)) (ath (colr (crounds (cstB key ctr nonce 3) k) i) (8 + i)) (ath (colr (crounds (cstB key ctr nonce 3) k) i) (12 + i))))]) (cs' := ((List.set (List.set (List.set (List.set (colr (crounds (cstB key ctr nonce 3) k) i) i (qa (ath (colr (crounds (cstB key ctr nonce 3) k) i) i) (ath (colr (crounds (cstB key ctr nonce 3) k) i) (4 + i)) (ath (colr (crounds (cstB key ctr nonce 3) k) i) (8 + i)) (ath (colr (crounds (cstB key ctr nonce 3) k) i) (12 + i)))) (4 + i) (qb (ath (colr (crounds (cstB key ctr nonce 3) k) i) i) (ath (colr (crounds (cstB key ctr nonce 3) k) i) (4 + i)) (ath (colr (crounds (cstB key ctr nonce 3) k) i) (8 + i)) (ath (colr (crounds (cstB key ctr nonce 3) k) i) (12 + i)))) (8 + i) (qc (ath (colr (crounds (cstB key ctr nonce 3) k) i) i) (ath (colr (crounds (cstB key ctr nonce 3) k) i) (4 + i)) (ath (colr (crounds (cstB key ctr nonce 3) k) i) (8 + i)) (ath (colr (crounds (cstB key ctr nonce 3) k) i) (12 + i)))) (12 + i) (qd (ath (colr (crounds (cstB key ctr nonce 3) k) i) i) (ath (colr (crounds (cstB key ctr nonce 3) k) i) (4 + i)) (ath (colr (crounds (cstB key ctr nonce 3) k) i) (8 + i)) (ath (colr (crounds (cstB key ctr nonce 3) k) i) (12 + i)))).map b32)) 0 rfl rfl kr (one_one rfl) (stl sd) (splice_map (f := b32) sd) rfl rfl rfl rfl ?_)
   refine D_past kr ?_
   refine D_done kr ?_
   refine lR ?_
   refine lO (pr_add (na_i64 (a := i) (b := 1) sd) rfl rfl rfl) ?_
   refine lM ?_
   refine L_nil ?_
   refine T_as 0 _ (.blk g7 101 ((colr (crounds (cstB key ctr nonce 3) k) (i + 1)).map b32)) rfl (by rw [colr_succ, ← qr4_def]) ?_
   exact T_again (i + 1) pN pN (sc rfl (sc rfl (sc rfl (sc rfl (sc rfl sn))))) [0, 1, 2, 3, 4] ⟨by decide, rfl⟩
  have hc_9 := of_decide_eq_false hc_9
  refine T_exit rfl ?_
  obtain rfl : 4 = i := by omega
  refine lT ?_
  refine lM ?_
  refine L_nil ?_
  refine T_block ?_
  refine T_as 0 _ (.blk g7 101 ((diar (colr (crounds (cstB key ctr nonce 3) k) 4) 0).map b32)) rfl (by rw [diar_zero]) ?_
  refine T_loop (T := Nat) (fun i => i ≤ 4) (fun i => [(6, (.pointer (some ⟨g3, 0, none⟩))), (7, (.pointer (some ⟨g6, 0, none⟩))), (8, (.pointer (some ⟨g7, 0, none⟩))), (21, (.int .i64 ((k : Nat) : Int))), (59, (.int .i64 ((i : Nat) : Int)))]) (fun i => [.blk g7 101 ((diar (colr (crounds (cstB key ctr nonce 3) k) 4) i).map b32), .blk g6 101 ((cstB key ctr nonce 3).map b32), .blk g3 83 ((List.replicate 64 0#8).map b8), .blk g2 43 (nonce.map b8), .blk g1 22 (key.map b8)]) (fun i => 4 - i) 0 pN (sc rfl (sc rfl (sc rfl (sc rfl (sc rfl sn))))) [0, 1, 2, 3, 4] ⟨by decide, rfl⟩ ?_
  rintro i hp
  have hp : i ≤ 4 := hp
  have hci := cd16 (k := i) (cc16 (k := 4) hck)
  refine lE [(6, (.pointer (some ⟨g3, 0, none⟩))), (7, (.pointer (some ⟨g6, 0, none⟩))), (8, (.pointer (some ⟨g7, 0, none⟩))), (21, (.int .i64 ((k : Nat) : Int))), (59, (.int .i64 ((i : Nat) : Int)))] ?_
  refine lH [0, 1, 2, 3, 4] [.blk g7 101 ((diar (colr (crounds (cstB key ctr nonce 3) k) 4) i).map b32), .blk g6 101 ((cstB key ctr nonce 3).map b32), .blk g3 83 ((List.replicate 64 0#8).map b8), .blk g2 43 (nonce.map b8), .blk g1 22 (key.map b8)] ?_
  refine lT ?_
  refine lO (pr_cmp (bo := .lss) (nc_lt (a := i) (b := 4)) rfl rfl rfl rfl) ?_
  refine L_nil ?_
  refine T_seq ?_
  refine T_cond (decide (i < 4)) rfl (fun hc_12 => ?_) (fun hc_12 => ?_)
  ·have hc_12 := of_decide_eq_true hc_12
   refine T_skip ?_
   refine T_seq ?_
   refine T_block ?_
   refine lT ?_
   refine lM ?_
   refine lS ?_
   refine lN ?_
   refine lM ?_
   refine lO (pr_add (na_i64 (a := i) (b := 1) sd) rfl rfl rfl) ?_
   refine lO (pr_rem (a := i + 1) (b := 4) sd rfl rfl rfl) ?_
   refine lO (pr_add (na_i64 (a := 4) (b := (i + 1) % 4) sd) rfl rfl rfl) ?_
   refine lM ?_
   refine lO (pr_add (na_i64 (a := i) (b := 2) sd) rfl rfl rfl) ?_
   refine lO (pr_rem (a := i + 2) (b := 4) sd rfl rfl rfl) ?_
   refine lO (pr_add (na_i64 (a := 8) (b := (i + 2) % 4) sd) rfl rfl rfl) ?_
   refine lM ?_
   refine lO (pr_add (na_i64 (a := i) (b := 3) sd) rfl rfl rfl) ?_
   refine lO (pr_rem (a := i + 3) (b := 4) sd rfl rfl rfl) ?_
   refine lO (pr_add (na_i64 (a := 12) (b := (i + 3) % 4) sd) rfl rfl rfl) ?_
   refine lS ?_
   refine lS ?_
   refine lS ?_
   refine L_nil ?_
   refine T_regD [.blk g7 101 ((diar (colr (crounds (cstB key ctr nonce 3) k) 4) i).map b32), .blk g6 101 ((cstB key ctr nonce 3).map b32), .blk g3 83 ((List.replicate 64 0#8).map b8), .blk g2 43 (nonce.map b8), .blk g1 22 (key.map b8)] 23 30 #[false, false, false, false, false, false, false, false, false, false, false, false, false, false, false, false, false, false, false, false, false, false, false, false, false, false, false, false, false, false] hF kr kr ?_
   refine D_pure (i := 0) [0, 1, 2, 3, 4] rfl kr rfl (pr_move rfl rfl) (.inr rfl) rfl rfl ?_
   refine D_pure (i := 1) [0, 1, 2, 3, 4] rfl kr rfl (pr_move rfl rfl) (.inr rfl) rfl rfl ?_
   refine D_pure (i := 2) [0, 1, 2, 3, 4] rfl kr rfl (pr_move rfl rfl) (.inr rfl) rfl rfl ?_
   refine D_pure (i := 3) [0, 1, 2, 3, 4] rfl kr rfl (pr_move rfl rfl) (.inr rfl) rfl rfl ?_
   refine D_pure (i := 4) [0, 1, 2, 3, 4] rfl kr rfl (pr_move rfl rfl) (.inr rfl) rfl rfl ?_
   refine D_pure (i := 5) [0, 1, 2, 3, 4] rfl kr rfl (pr_ixa (j := i) (m' := i) sd oM Tryz.underlying101 (z := 1) kr rfl rfl rfl) (.inr rfl) rfl rfl ?_
   refine D_pure (i := 7) [0, 1, 2, 3, 4] rfl kr rfl (pr_move rfl rfl) (.inr rfl) rfl rfl ?_
   refine D_pure (i := 8) [0, 1, 2, 3, 4] rfl kr rfl (pr_ixa (j := 4 + ((i + 1) % 4)) (m' := 4 + ((i + 1) % 4)) sd oM Tryz.underlying101 (z := 1) kr rfl rfl rfl) (.inr rfl) rfl rfl ?_
   refine D_pure (i := 10) [0, 1, 2, 3, 4] rfl kr rfl (pr_move rfl rfl) (.inr rfl) rfl rfl ?_
   refine D_pure (i := 11) [0, 1, 2, 3, 4] rfl kr rfl (pr_ixa (j := 8 + ((i + 2) % 4)) (m' := 8 + ((i + 2) % 4)) sd oM Tryz.underlying101 (z := 1) kr rfl rfl rfl) (.inr rfl) rfl rfl ?_
   refine D_pure (i := 13) [0, 1, 2, 3, 4] rfl kr rfl (pr_move rfl rfl) (.inr rfl) rfl rfl ?_
   refine D_pure (i := 14) [0, 1, 2, 3, 4] rfl kr rfl (pr_ixa (j := 12 + ((i + 3) % 4)) (m' := 12 + ((i + 3) % 4)) sd oM Tryz.underlying101 (z := 1) kr rfl rfl rfl) (.inr rfl) rfl rfl ?_
   refine D_take (i := 6) [0, 1, 2, 3, 4] rfl kr rfl (ld_blk 0 rfl (get32 sd) Tryz.underlying61 rfl rfl rfl) rfl rfl rfl ?_
   refine D_take (i := 9) [0, 1, 2, 3, 4] rfl kr rfl (ld_blk 0 rfl (get32 sd) Tryz.underlying61 rfl rfl rfl) rfl rfl rfl ?_
   refine D_take (i := 12) [0, 1, 2, 3, 4] rfl kr rfl (ld_blk 0 rfl (get32 sd) Tryz.underlying61 rfl rfl rfl) rfl rfl rfl ?_
   refine D_take (i := 15) [0, 1, 2, 3, 4] rfl kr rfl (ld_blk 0 rfl (get32 sd) Tryz.underlying61 rfl rfl rfl) rfl rfl rfl ?_
   refine D_one 16 _ rfl kr rfl (op_cn (fun w hw => quarter_f (ath (diar (colr (crounds (cstB key ctr nonce 3) k) 4) i) i) (ath (diar (colr (crounds (cstB key ctr nonce 3) k) 4) i) (4 + ((i + 1) % 4))) (ath (diar (colr (crounds (cstB key ctr nonce 3) k) 4) i) (8 + ((i + 2) % 4))) (ath (diar (colr (crounds (cstB key ctr nonce 3) k) 4) i) (12 + ((i + 3) % 4))) w (hok_nil w) ) (enters_of Tryz.func75 kr rfl) rfl rfl rfl rfl rfl (fun t13 q14 => ?_))
   refine D_on [0, 1, 2, 3, 4] rfl ?_
   refine D_pure (i := 17) [0, 1, 2, 3, 4] rfl kr rfl (pr_move rfl rfl) (.inr rfl) rfl rfl ?_
   refine D_pure (i := 18) [0, 1, 2, 3, 4] rfl kr rfl (pr_ext (vs := [(b32 (qa (ath (diar (colr (crounds (cstB key ctr nonce 3) k) 4) i) i) (ath (diar (colr (crounds (cstB key ctr nonce 3) k) 4) i) (4 + ((i + 1) % 4))) (ath (diar (colr (crounds (cstB key ctr nonce 3) k) 4) i) (8 + ((i + 2) % 4))) (ath (diar (colr (crounds (cstB key ctr nonce 3) k) 4) i) (12 + ((i + 3) % 4))))), (b32 (qb (ath (diar (colr (crounds (cstB key ctr nonce 3) k) 4) i) i) (ath (diar (colr (crounds (cstB key ctr nonce 3) k) 4) i) (4 + ((i + 1) % 4))) (ath (diar (colr (crounds (cstB key ctr nonce 3) k) 4) i) (8 + ((i + 2) % 4))) (ath (diar (colr (crounds (cstB key ctr nonce 3) k) 4) i) (12 + ((i + 3) % 4))))), (b32 (qc (ath (diar (colr (crounds (cstB key ctr nonce 3) k) 4) i) i) (ath (diar (colr (crounds (cstB key ctr nonce 3) k) 4) i) (4 + ((i + 1) % 4))) (ath (diar (colr (crounds (cstB key ctr nonce 3) k) 4) i) (8 + ((i + 2) % 4))) (ath (diar (colr (crounds (cstB key ctr nonce 3) k) 4) i) (12 + ((i + 3) % 4))))), (b32 (qd (ath (diar (colr (crounds (cstB key ctr nonce 3) k) 4) i) i) (ath (diar (colr (crounds (cstB key ctr nonce 3) k) 4) i) (4 + ((i + 1) % 4))) (ath (diar (colr (crounds (cstB key ctr nonce 3) k) 4) i) (8 + ((i + 2) % 4))) (ath (diar (colr (crounds (cstB key ctr nonce 3) k) 4) i) (12 + ((i + 3) % 4)))))]) rfl rfl rfl) (.inr rfl) rfl rfl ?_
   refine D_pure (i := 19) [0, 1, 2, 3, 4] rfl kr rfl (pr_ext (vs := [(b32 (qa (ath (diar (colr (crounds (cstB key ctr nonce 3) k) 4) i) i) (ath (diar (colr (crounds (cstB key ctr nonce 3) k) 4) i) (4 + ((i + 1) % 4))) (ath (diar (colr (crounds (cstB key ctr nonce 3) k) 4) i) (8 + ((i + 2) % 4))) (ath (diar (colr (crounds (cstB key ctr nonce 3) k) 4) i) (12 + ((i + 3) % 4))))), (b32 (qb (ath (diar (colr (crounds (cstB key ctr nonce 3) k) 4) i) i) (ath (diar (colr (crounds (cstB key ctr nonce 3) k) 4) i) (4 + ((i + 1) % 4))) (ath (diar (colr (crounds (cstB key ctr nonce 3) k) 4) i) (8 + ((i + 2) % 4))) (ath (diar (colr (crounds (cstB key ctr nonce 3) k) 4) i) (12 + ((i + 3) % 4))))), (b32 (qc (ath (diar (colr (crounds (cstB key ctr nonce 3) k) 4) i) i) (ath (diar (colr (crounds (cstB key ctr nonce 3) k) 4) i) (4 + ((i + 1) % 4))) (ath (diar (colr (crounds (cstB key ctr nonce 3) k) 4) i) (8 + ((i + 2) % 4))) (ath (diar (colr (crounds (cstB key ctr nonce 3) k) 4) i) (12 + ((i + 3) % 4))))), (b32 (qd (ath (diar (colr (crounds (cstB key ctr nonce 3) k) 4) i) i) (ath (diar (colr (crounds (cstB key ctr nonce 3) k) 4) i) (4 + ((i + 1) % 4))) (ath (diar (colr (crounds (cstB key ctr nonce 3) k) 4) i) (8 + ((i + 2) % 4))) (ath (diar (colr (crounds (cstB key ctr nonce 3) k) 4) i) (12 + ((i + 3) % 4)))))]) rfl rfl rfl) (.inr rfl) rfl rfl ?_
   refine D_pure (i := 20) [0, 1, 2, 3, 4] rfl kr rfl (pr_ext (vs := [(b32 (qa (ath (diar (colr (crounds (cstB key ctr nonce 3) k) 4) i) i) (ath (diar (colr (crounds (cstB key ctr nonce 3) k) 4) i) (4 + ((i + 1) % 4))) (ath (diar (colr (crounds (cstB key ctr nonce 3) k) 4) i) (8 + ((i + 2) % 4))) (ath (diar (colr (crounds (cstB key ctr nonce 3) k) 4) i) (12 + ((i + 3) % 4))))), (b32 (qb (ath (diar (colr (crounds (cstB key ctr nonce 3) k) 4) i) i) (ath (diar (colr (crounds (cstB key ctr nonce 3) k) 4) i) (4 + ((i + 1) % 4))) (ath (diar (colr (crounds (cstB key ctr nonce 3) k) 4) i) (8 + ((i + 2) % 4))) (ath (diar (colr (crounds (cstB key ctr nonce 3) k) 4) i) (12 + ((i + 3) % 4))))), (b32 (qc (ath (diar (colr (crounds (cstB key ctr nonce 3) k) 4) i) i) (ath (diar (colr (crounds (cstB key ctr nonce 3) k) 4) i) (4 + ((i + 1) % 4))) (ath (diar (colr (crounds (cstB key ctr nonce 3) k) 4) i) (8 + ((i + 2) % 4))) (ath (diar (colr (crounds (cstB key ctr nonce 3) k) 4) i) (12 + ((i + 3) % 4))))), (b32 (qd (ath (diar (colr (crounds (cstB key ctr nonce 3) k) 4) i) i) (ath (diar (colr (crounds (cstB key ctr nonce 3) k) 4) i) (4 + ((i + 1) % 4))) (ath (diar (colr (crounds (cstB key ctr nonce 3) k) 4) i) (8 + ((i + 2) % 4))) (ath (diar (colr (crounds (cstB key ctr nonce 3) k) 4) i) (12 + ((i + 3) % 4)))))]) rfl rfl rfl) (.inr rfl) rfl rfl ?_
   refine D_pure (i := 21) [0, 1, 2, 3, 4] rfl kr rfl (pr_ext (vs := [(b32 (qa (ath (diar (colr (crounds (cstB key ctr nonce 3) k) 4) i) i) (ath (diar (colr (crounds (cstB key ctr nonce 3) k) 4) i) (4 + ((i + 1) % 4))) (ath (diar (colr (crounds (cstB key ctr nonce 3) k) 4) i) (8 + ((i + 2) % 4))) (ath (diar (colr (crounds (cstB key ctr nonce 3) k) 4) i) (12 + ((i + 3) % 4))))), (b32 (qb (ath (diar (colr (crounds (cstB key ctr nonce 3) k) 4) i) i) (ath (diar (colr (crounds (cstB key ctr nonce 3) k) 4) i) (4 + ((i + 1) % 4))) (ath (diar (colr (crounds (cstB key ctr nonce 3) k) 4) i) (8 + ((i + 2) % 4))) (ath (diar (colr (crounds (cstB key ctr nonce 3) k) 4) i) (12 + ((i + 3) % 4))))), (b32 (qc (ath (diar (colr (crounds (cstB key ctr nonce 3) k) 4) i) i) (ath (diar (colr (crounds (cstB key ctr nonce 3) k) 4) i) (4 + ((i + 1) % 4))) (ath (diar (colr (crounds (cstB key ctr nonce 3) k) 4) i) (8 + ((i + 2) % 4))) (ath (diar (colr (crounds (cstB key ctr nonce 3) k) 4) i) (12 + ((i + 3) % 4))))), (b32 (qd (ath (diar (colr (crounds (cstB key ctr nonce 3) k) 4) i) i) (ath (diar (colr (crounds (cstB key ctr nonce 3) k) 4) i) (4 + ((i + 1) % 4))) (ath (diar (colr (crounds (cstB key ctr nonce 3) k) 4) i) (8 + ((i + 2) % 4))) (ath (diar (colr (crounds (cstB key ctr nonce 3) k) 4) i) (12 + ((i + 3) % 4)))))]) rfl rfl rfl) (.inr rfl) rfl rfl ?_
   refine D_pure (i := 22) [0, 1, 2, 3, 4] rfl kr rfl (pr_ixa (j := i) (m' := i) sd oM Tryz.underlying101 (z := 1) kr rfl rfl rfl) (.inr rfl) rfl rfl ?_
   refine D_one 23 _ rfl kr rfl (op_store (vs := [(b32 (qa (ath (diar (colr (crounds (cstB key ctr nonce 3) k) 4) i) i) (ath (diar (colr (crounds (cstB key ctr nonce 3) k) 4) i) (4 + ((i + 1) % 4))) (ath (diar (colr (crounds (cstB key ctr nonce 3) k) 4) i) (8 + ((i + 2) % 4))) (ath (diar (colr (crounds (cstB key ctr nonce 3) k) 4) i) (12 + ((i + 3) % 4)))))]) (cs' := ((List.set (diar (colr (crounds (cstB key ctr nonce 3) k) 4) i) i (qa (ath (diar (colr (crounds (cstB key ctr nonce 3) k) 4) i) i) (ath (diar (colr (crounds (cstB key ctr nonce 3) k) 4) i) (4 + ((i + 1) % 4))) (ath (diar (colr (crounds (cstB key ctr nonce 3) k) 4) i) (8 + ((i + 2) % 4))) (ath (diar (colr (crounds (cstB key ctr nonce 3) k) 4) i) (12 + ((i + 3) % 4))))).map b32)) 0 rfl rfl kr (one_one rfl) (stl sd) (splice_map (f := b32) sd) rfl rfl rfl rfl ?_)
   refine D_past kr ?_
   refine D_pure (i := 24) [] rfl kr rfl (pr_ixa (j := 4 + ((i + 1) % 4)) (m' := 4 + ((i + 1) % 4)) sd oM Tryz.underlying101 (z := 1) kr rfl rfl rfl) (.inl kr) rfl rfl ?_
   refine D_one 25 _ rfl kr rfl (op_store (vs := [(b32 (qb (ath (diar (colr (crounds (cstB key ctr nonce 3) k) 4) i) i) (ath (diar (colr (crounds (cstB key ctr nonce 3) k) 4) i) (4 + ((i + 1) % 4))) (ath (diar (colr (crounds (cstB key ctr nonce 3) k) 4) i) (8 + ((i + 2) % 4))) (ath (diar (colr (crounds (cstB key ctr nonce 3) k) 4) i) (12 + ((i + 3) % 4)))))]) (cs' := ((List.set (List.set (diar (colr (crounds (cstB key ctr nonce 3) k) 4) i) i (qa (ath (diar (colr (crounds (cstB key ctr nonce 3) k) 4) i) i) (ath (diar (colr (crounds (cstB key ctr nonce 3) k) 4) i) (4 + ((i + 1) % 4))) (ath (diar (colr (crounds (cstB key ctr nonce 3) k) 4) i) (8 + ((i + 2) % 4))) (ath (diar (colr (crounds (cstB key ctr nonce 3) k) 4) i) (12 + ((i + 3) % 4))))) (4 + ((i + 1) % 4)) (qb (ath (diar (colr (crounds (cstB key ctr nonce 3) k) 4) i) i) (ath (diar (colr (crounds (cstB key ctr nonce 3) k) 4) i) (4 + ((i + 1) % 4))) (ath (diar (colr (crounds (cstB key ctr nonce 3) k) 4) i) (8 + ((i + 2) % 4))) (ath (diar (colr (crounds (cstB key ctr nonce 3) k) 4) i) (12 + ((i + 3) % 4))))).map b32)) 0 rfl rfl kr (one_one rfl) (stl sd) (splice_map (f := b32) sd) rfl rfl rfl rfl ?_)
   refine D_past kr ?_
   refine D_pure (i := 26) [] rfl kr rfl (pr_ixa (j := 8 + ((i + 2) % 4)) (m' := 8 + ((i + 2) % 4)) sd oM Tryz.underlying101 (z := 1) kr rfl rfl rfl) (.inl kr) rfl rfl ?_
   refine D_one 27 _ rfl kr rfl (op_store (vs := [(b32 (qc (ath (diar (colr (crounds (cstB key ctr nonce 3) k) 4) i) i) (ath (diar (colr (crounds (cstB key ctr nonce 3) k) 4) i) (4 + ((i + 1) % 4))) (ath (diar (colr (crounds (cstB key ctr nonce 3) k) 4) i) (8 + ((i + 2) % 4))) (ath (diar (colr (crounds (cstB key ctr nonce 3) k) 4) i) (12 + ((i + 3) % 4)))))]) (cs' := ((List.set (List.set (List.set (diar (colr (crounds (cstB key ctr nonce 3) k) 4) i) i (qa (ath (diar (colr (crounds (cstB key ctr nonce 3) k) 4) i) i) (ath (diar (colr (crounds (cstB key ctr nonce 3) k) 4) i) (4 + ((i + 1) % 4))) (ath (diar (colr (crounds (cstB key ctr nonce 3) k) 4) i) (8 + ((i + 2) % 4))) (ath (diar (colr (crounds (cstB key ctr nonce 3) k) 4) i) (12 + ((i + 3) % 4))))) (4 + ((i + 1) % 4)) (qb (ath (diar (colr (crounds (cstB key ctr nonce 3) k) 4) i) i) (ath (diar (colr (crounds (cstB key ctr nonce 3) k) 4) i) (4 + ((i + 1) % 4))) (ath (diar (colr (crounds (cstB key ctr nonce 3) k) 4) i) (8 + ((i + 2) % 4))) (ath (diar (colr (crounds (cstB key ctr nonce 3) k) 4) i) (12 + ((i + 3) % 4))))) (8 + ((i + 2) % 4)) (qc (ath (diar (colr (crounds (cstB key ctr nonce 3) k) 4) i) i) (ath (diar (colr (crounds (cstB key ctr nonce 3) k) 4) i) (4 + ((i + 1) % 4))) (ath (diar (colr (crounds (cstB key ctr nonce 3) k) 4) i) (8 + ((i + 2) % 4))) (ath (diar (colr (crounds (cstB key ctr nonce 3) k) 4) i) (12 + ((i + 3) % 4))))).map b32)) 0 rfl rfl kr (one_one rfl) (stl sd) (splice_map (f := b32) sd) rfl rfl rfl rfl ?_)
   refine D_past kr ?_
   refine D_pure (i := 28) [] rfl kr rfl (pr_ixa (j := 12 + ((i + 3) % 4)) (m' := 12 + ((i + 3) % 4)) sd oM Tryz.underlying101 (z := 1) kr rfl rfl rfl) (.inl kr) rfl rfl ?_
   refine D_one 29 _ rfl kr rfl (op_store (vs := [(b32 (qd (ath (diar (colr (crounds (cstB key ctr nonce 3) k) 4) i) i) (ath (diar (colr (crounds (cstB key ctr nonce 3) k) 4) i) (4 + ((i + 1) % 4))) (ath (diar (colr (crounds (cstB key ctr nonce 3) k) 4) i) (8 + ((i + 2) % 4))) (ath (diar (colr (crounds (cstB key ctr nonce 3) k) 4) i) (12 + ((i + 3) % 4)))))]) (cs' := ((List.set (List.set (List.set (List.set (diar (colr (crounds (cstB key ctr nonce 3) k) 4) i) i (qa (ath (diar (colr (crounds (cstB key ctr nonce 3) k) 4) i) i) (ath (diar (colr (crounds (cstB key ctr nonce 3) k) 4) i) (4 + ((i + 1) % 4))) (ath (diar (colr (crounds (cstB key ctr nonce 3) k) 4) i) (8 + ((i + 2) % 4))) (ath (diar (colr (crounds (cstB key ctr nonce 3) k) 4) i) (12 + ((i + 3) % 4))))) (4 + ((i + 1) % 4)) (qb (ath (diar (colr (crounds (cstB key ctr nonce 3) k) 4) i) i) (ath (diar (colr (crounds (cstB key ctr nonce 3) k) 4) i) (4 + ((i + 1) % 4))) (ath (diar (colr (crounds (cstB key ctr nonce 3) k) 4) i) (8 + ((i + 2) % 4))) (ath (diar (colr (crounds (cstB key ctr nonce 3) k) 4) i) (12 + ((i + 3) % 4))))) (8 + ((i + 2) % 4)) (qc (ath (diar (colr (crounds (cstB key ctr nonce 3) k) 4) i) i) (ath (diar (colr (crounds (cstB key ctr nonce 3) k) 4) i) (4 + ((i + 1) % 4))) (ath (diar (colr (crounds (cstB key ctr nonce 3) k) 4) i) (8 + ((i + 2) % 4))) (ath (diar (colr (crounds (cstB key ctr nonce 3) k) 4) i) (12 + ((i + 3) % 4))))) (12 + ((i + 3) % 4)) (qd (ath (diar (colr (crounds (cstB key ctr nonce 3) k) 4) i) i) (ath (diar (colr (crounds (cstB key ctr nonce 3) k) 4) i) (4 + ((i + 1) % 4))) (ath (diar (colr (crounds (cstB key ctr nonce 3) k) 4) i) (8 + ((i + 2) % 4))) (ath (diar (colr (crounds (cstB key ctr nonce 3) k) 4) i) (12 + ((i + 3) % 4))))).map b32)) 0 rfl rfl kr (one_one rfl) (stl sd) (splice_map (f := b32) sd) rfl rfl rfl rfl ?_)
   refine D_past kr ?_
   refine D_done kr ?_
   refine lR ?_
   refine lO (pr_add (na_i64 (a := i) (b := 1) sd) rfl rfl rfl) ?_
   refine lM ?_
   refine L_nil ?_
   refine T_as 0 _ (.blk g7 101 ((diar (colr (crounds (cstB key ctr nonce 3) k) 4) (i + 1)).map b32)) rfl (by rw [diar_succ, ← qr4_def]) ?_
   exact T_again (i + 1) pN pN (sc rfl (sc rfl (sc rfl (sc rfl (sc rfl sn))))) [0, 1, 2, 3, 4] ⟨by decide, rfl⟩
  have hc_12 := of_decide_eq_false hc_12
  refine T_exit rfl ?_
  obtain rfl : 4 = i := by omega
  refine lR ?_
  refine lO (pr_add (na_i64 (a := k) (b := 1) sd) rfl rfl rfl) ?_
  refine lM ?_
  refine L_nil ?_
  refine T_as 0 _ (.blk g7 101 ((crounds (cstB key ctr nonce 3) (k + 1)).map b32)) rfl (by rw [crounds_succ]) ?_
  exact T_again (k + 1) pN pN (sc rfl (sc rfl (sc rfl (sc rfl sn)))) [0, 1, 2, 3, 4] ⟨by decide, rfl⟩
 have hc_8 := of_decide_eq_false hc_8
 refine T_exit rfl ?_
 obtain rfl : 10 = k := by omega
 refine lT ?_
 refine L_op rfl (op_make (z := (b8 (0#8))) (n := 0) (c := 64) Tryz.underlying27 (bytes := 1) kr rfl sd sd sd rfl rfl rfl rfl rfl (fun g15 => ?_))
 refine T_as 0 _ (.blk g15 5 ((List.replicate 64 0#8).map b8)) rfl (by rw [List.map_replicate]) ?_
 refine lS ?_
 refine L_nil ?_
 refine T_seq ?_
 refine lT ?_
 refine lM ?_
 refine L_nil ?_
 refine T_block ?_
 refine T_slot 14 (.slice (some ⟨g15, 0, none⟩) 0 64) (.slice (some ⟨g15, 0, none⟩) (4 * 0) 64) rfl (by rfl) ?_
 refine T_rowb 0 (zs := ((outb (crounds (cstB key ctr nonce 3) 10) (cstB key ctr nonce 3) 0).map b8)) 1 (4 * 0) 64 rfl sd sd sd (by rw [outb_zero]; rfl) ?_
 refine T_loop (T := Nat × Option Addr × Nat) (fun ⟨i, A1, c1⟩ => i ≤ 16) (fun ⟨i, A1, c1⟩ => [(6, (.pointer (some ⟨g3, 0, none⟩))), (7, (.pointer (some ⟨g6, 0, none⟩))), (8, (.pointer (some ⟨g7, 0, none⟩))), (14, (.slice A1 (4 * i) c1)), (103, (.int .i64 ((i : Nat) : Int)))]) (fun ⟨i, A1, c1⟩ => [.row (.slice A1 (4 * i) c1) 5 1 (4 * i) ((outb (crounds (cstB key ctr nonce 3) 10) (cstB key ctr nonce 3) i).map b8), .blk g7 101 ((crounds (cstB key ctr nonce 3) 10).map b32), .blk g6 101 ((cstB key ctr nonce 3).map b32), .blk g3 83 ((List.replicate 64 0#8).map b8), .blk g2 43 (nonce.map b8), .blk g1 22 (key.map b8)]) (fun ⟨i, A1, c1⟩ => 16 - i) (0, some ⟨g15, 0, none⟩, 64) pN (sc rfl (sc rfl (sc rfl (sc rfl (sc rfl sn))))) [0, 1, 2, 3, 4, 5] ⟨by decide, rfl⟩ ?_
 rintro ⟨i, A1, c1⟩ hp
 have hp : i ≤ 16 := hp
 have hoi := hol i
 have hc10 := hcr 10
 refine lE [(6, (.pointer (some ⟨g3, 0, none⟩))), (7, (.pointer (some ⟨g6, 0, none⟩))), (8, (.pointer (some ⟨g7, 0, none⟩))), (14, (.slice A1 (4 * i) c1)), (103, (.int .i64 ((i : Nat) : Int)))] ?_
 refine lH [0, 1, 2, 3, 4, 5] [.row (.slice A1 (4 * i) c1) 5 1 (4 * i) ((outb (crounds (cstB key ctr nonce 3) 10) (cstB key ctr nonce 3) i).map b8), .blk g7 101 ((crounds (cstB key ctr nonce 3) 10).map b32), .blk g6 101 ((cstB key ctr nonce 3).map b32), .blk g3 83 ((List.replicate 64 0#8).map b8), .blk g2 43 (nonce.map b8), .blk g1 22 (key.map b8)] ?_
 refine lT ?_
 refine lO (pr_cmp (bo := .lss) (nc_lt (a := i) (b := 16)) rfl rfl rfl rfl) ?_
 refine L_nil ?_
 refine T_seq ?_
 refine T_cond (decide (i < 16)) rfl (fun hc_16 => ?_) (fun hc_16 => ?_)
 ·have hc_16 := of_decide_eq_true hc_16
  refine T_skip ?_
  refine T_seq ?_
  refine T_block ?_
  refine lT ?_
  refine lM ?_
  refine lS ?_
  refine L_nil ?_
  refine T_regD [.row (.slice A1 (4 * i) c1) 5 1 (4 * i) ((outb (crounds (cstB key ctr nonce 3) 10) (cstB key ctr nonce 3) i).map b8), .blk g7 101 ((crounds (cstB key ctr nonce 3) 10).map b32), .blk g6 101 ((cstB key ctr nonce 3).map b32), .blk g3 83 ((List.replicate 64 0#8).map b8), .blk g2 43 (nonce.map b8), .blk g1 22 (key.map b8)] 9 11 #[false, false, false, false, false, false, false, false, false, false, false] hF kr kr ?_
  refine D_pure (i := 0) [0, 1, 2, 3, 4, 5] rfl kr rfl (pr_move rfl rfl) (.inr rfl) rfl rfl ?_
  refine D_pure (i := 1) [0, 1, 2, 3, 4, 5] rfl kr rfl (pr_move rfl rfl) (.inr rfl) rfl rfl ?_
  refine D_pure (i := 2) [0, 1, 2, 3, 4, 5] rfl kr rfl (pr_ixa (j := i) (m' := i) sd oM Tryz.underlying101 (z := 1) kr rfl rfl rfl) (.inr rfl) rfl rfl ?_
  refine D_pure (i := 4) [0, 1, 2, 3, 4, 5] rfl kr rfl (pr_move rfl rfl) (.inr rfl) rfl rfl ?_
  refine D_pure (i := 5) [0, 1, 2, 3, 4, 5] rfl kr rfl (pr_ixa (j := i) (m' := i) sd oM Tryz.underlying101 (z := 1) kr rfl rfl rfl) (.inr rfl) rfl rfl ?_
  refine D_take (i := 3) [0, 1, 2, 3, 4, 5] rfl kr rfl (ld_blk 1 rfl (get32 sd) Tryz.underlying61 rfl rfl rfl) rfl rfl rfl ?_
  refine D_take (i := 6) [0, 1, 2, 3, 4, 5] rfl kr rfl (ld_blk 2 rfl (get32 sd) Tryz.underlying61 rfl rfl rfl) rfl rfl rfl ?_
  refine D_pure (i := 7) [0, 1, 2, 3, 4, 5] rfl kr rfl (pr_add (add32 _ _) rfl rfl rfl) (.inr rfl) rfl rfl ?_
  refine D_pure (i := 8) [0, 1, 2, 3, 4, 5] rfl kr rfl (pr_cv (cv32_64 _) Tryz.underlying61 Tryz.underlying23 rfl rfl) (.inr rfl) rfl rfl ?_
  refine D_one 9 _ rfl kr rfl (op_c1 0 rfl (fun w hw => putLow_f (outb (crounds (cstB key ctr nonce 3) 10) (cstB key ctr nonce 3) i) (((ath (crounds (cstB key ctr nonce 3) 10) i) + (ath (cstB key ctr nonce 3) i)).setWidth 64) 4 A1 (4 * i) c1 w (hw _ (List.mem_of_getElem? (i := 0) rfl)) sd sd) (enters_of Tryz.func51 kr rfl) rfl rfl rfl rfl rfl (fun t17 q18 => ?_))
  obtain ⟨B19, d20⟩ := t17
  refine D_past kr ?_
  refine D_pure (i := 10) [] rfl kr rfl (pr_assign rfl rfl) (.inl kr) rfl rfl ?_
  refine D_done kr ?_
  refine lR ?_
  refine lO (pr_add (na_i64 (a := i) (b := 1) sd) rfl rfl rfl) ?_
  refine lM ?_
  refine L_nil ?_
  refine T_slot 14 (.slice B19 ((4 * i) + 4) d20) (.slice B19 (4 * (i + 1)) d20) rfl (by rfl) ?_
  refine T_as 0 _ (.row (.slice B19 (4 * (i + 1)) d20) 5 1 (4 * (i + 1)) ((outb (crounds (cstB key ctr nonce 3) 10) (cstB key ctr nonce 3) (i + 1)).map b8)) rfl (by rw [outb_succ]; rfl) ?_
  exact T_again (i + 1, B19, d20) pN pN (sc rfl (sc rfl (sc rfl (sc rfl (sc rfl sn))))) [0, 1, 2, 3, 4, 5] ⟨by decide, rfl⟩
 have hc_16 := of_decide_eq_false hc_16
 refine T_exit rfl ?_
 obtain rfl : 16 = i := by omega
 refine lT ?_
 refine lM ?_
 refine lO (pr_s2a sd Tryz.underlying83 rfl rfl) ?_
 refine lQ (ld_aggs (ds := ((outb (crounds (cstB key ctr nonce 3) 10) (cstB key ctr nonce 3) 16).map b8)) (src_row 0 rfl) (List.take_length) (by have h1 : (((outb (crounds (cstB key ctr nonce 3) 10) (cstB key ctr nonce 3) 16).map b8)).length = 64 := sd; omega) Tryz.underlying83 rfl (fwz (n := 64) kr sd) rfl rfl) ?_
 refine L_op rfl (op_sto (n := 64) (vs := ((outb (crounds (cstB key ctr nonce 3) 10) (cstB key ctr nonce 3) 16).map b8)) 3 rfl rfl kr (all8_one _) kr sd rfl rfl rfl rfl ?_)
 refine L_nil ?_
 refine T_ret ?_
 refine T_as 0 _ (.blk g3 83 ((cblock key ctr nonce).map b8)) rfl (by rw [cblock_def]) ?_
 exact T_fin () qN (resb 0 rfl rfl rfl Tryz.underlying83 rfl (fwz (n := 64) kr sd)) [] ⟨by decide, rfl⟩ rfl
set_option maxHeartbeats 4000000 in
theorem rword_f (xs : List (BitVec 8)) (A : Option Addr) (c : Nat) (w : World) (hO : HOK [.rd A 1 4 c (xs.map b8)] w) (hx : xs.length = 4) : Calls Tryz.prog 83 [(.slice A 4 c)].toArray w (Ret (T := Unit) [] w (fun _ => True) (fun _ => (b32 ((low xs 4).setWidth 32))) (fun _ => [])) := by
 have hF : Wid Fence.wide := wid_wide
 refine enter (c := _) Tryz.func83 rfl [] _ [.rd A 1 4 c (xs.map b8)] (by rw [Tryz.ntmps83]; rfl) (own_rds hO rfl) ?_
 rw [Tryz.ntmps83]
 refine lE [(0, (.slice A 4 c))] ?_
 refine lH [0] [.rd A 1 4 c (xs.map b8)] ?_
 refine lT ?_
 refine lS ?_
 refine L_nil ?_
 refine T_seq ?_
 refine T_regD [.rd A 1 4 c (xs.map b8)] 23 23 #[false, false, false, false, false, false, false, false, false, false, false, false, false, false, false, false, false, false, false, false, false, false, false] hF kr kr ?_
 refine D_pure (i := 0) [0] rfl kr rfl (pr_move rfl rfl) (.inr rfl) rfl rfl ?_
 refine D_pure (i := 1) [0] rfl kr rfl (pr_ixs1 (j := 0) (src_none (src_rd 0 rfl)) sd Tryz.underlying27 kr rfl rfl rfl) (.inr rfl) rfl rfl ?_
 refine D_pure (i := 4) [0] rfl kr rfl (pr_move rfl rfl) (.inr rfl) rfl rfl ?_
 refine D_pure (i := 5) [0] rfl kr rfl (pr_ixs1 (j := 1) (src_none (src_rd 0 rfl)) sd Tryz.underlying27 kr rfl rfl rfl) (.inr rfl) rfl rfl ?_
 refine D_pure (i := 10) [0] rfl kr rfl (pr_move rfl rfl) (.inr rfl) rfl rfl ?_
 refine D_pure (i := 11) [0] rfl kr rfl (pr_ixs1 (j := 2) (src_none (src_rd 0 rfl)) sd Tryz.underlying27 kr rfl rfl rfl) (.inr rfl) rfl rfl ?_
 refine D_pure (i := 16) [0] rfl kr rfl (pr_move rfl rfl) (.inr rfl) rfl rfl ?_
 refine D_pure (i := 17) [0] rfl kr rfl (pr_ixs1 (j := 3) (src_none (src_rd 0 rfl)) sd Tryz.underlying27 kr rfl rfl rfl) (.inr rfl) rfl rfl ?_
 refine D_take (i := 2) [0] rfl kr rfl (ld_src (m := 0) (src_rd 0 rfl) (get8 sd) Tryz.underlying5 rfl rfl rfl) rfl rfl rfl ?_
 refine D_pure (i := 3) [0] rfl kr rfl (pr_cv (cv8_32 _) Tryz.underlying5 Tryz.underlying61 rfl rfl) (.inr rfl) rfl rfl ?_
 refine D_take (i := 6) [0] rfl kr rfl (ld_src (m := 1) (src_rd 0 rfl) (get8 sd) Tryz.underlying5 rfl rfl rfl) rfl rfl rfl ?_
 refine D_pure (i := 7) [0] rfl kr rfl (pr_cv (cv8_32 _) Tryz.underlying5 Tryz.underlying61 rfl rfl) (.inr rfl) rfl rfl ?_
 refine D_pure (i := 8) [0] rfl kr rfl (pr_shift (sh_shl32 ((ath xs 1).setWidth 32) _ 8) rfl rfl rfl rfl) (.inr rfl) rfl rfl ?_
 refine D_pure (i := 9) [0] rfl kr rfl (pr_or (ib_or32 _ _) rfl rfl rfl) (.inr rfl) rfl rfl ?_
 refine D_take (i := 12) [0] rfl kr rfl (ld_src (m := 2) (src_rd 0 rfl) (get8 sd) Tryz.underlying5 rfl rfl rfl) rfl rfl rfl ?_
 refine D_pure (i := 13) [0] rfl kr rfl (pr_cv (cv8_32 _) Tryz.underlying5 Tryz.underlying61 rfl rfl) (.inr rfl) rfl rfl ?_
 refine D_pure (i := 14) [0] rfl kr rfl (pr_shift (sh_shl32 ((ath xs 2).setWidth 32) _ 16) rfl rfl rfl rfl) (.inr rfl) rfl rfl ?_
 refine D_pure (i := 15) [0] rfl kr rfl (pr_or (ib_or32 _ _) rfl rfl rfl) (.inr rfl) rfl rfl ?_
 refine D_take (i := 18) [0] rfl kr rfl (ld_src (m := 3) (src_rd 0 rfl) (get8 sd) Tryz.underlying5 rfl rfl rfl) rfl rfl rfl ?_
 refine D_pure (i := 19) [0] rfl kr rfl (pr_cv (cv8_32 _) Tryz.underlying5 Tryz.underlying61 rfl rfl) (.inr rfl) rfl rfl ?_
 refine D_pure (i := 20) [0] rfl kr rfl (pr_shift (sh_shl32 ((ath xs 3).setWidth 32) _ 24) rfl rfl rfl rfl) (.inr rfl) rfl rfl ?_
 refine D_pure (i := 21) [0] rfl kr rfl (pr_or (ib_or32 _ _) rfl rfl rfl) (.inr rfl) rfl rfl ?_
 refine D_pure (i := 22) [0] rfl kr rfl (pr_assign rfl rfl) (.inr rfl) rfl rfl ?_
 refine D_done kr ?_
 refine T_ret ?_
 refine T_slot 2 _ (b32 ((low xs 4).setWidth 32)) rfl (by rw [← word4_low]) ?_
 exact T_fin () qN (res1 rfl rfl) [] ⟨by decide, rfl⟩ rfl
set_option maxHeartbeats 4000000 in
theorem rround_f (xs16 : List (BitVec 32)) (i : Nat) (j : Nat) (k : Nat) (l : Nat) (w : World) (hO : HOK [] w) (hx : xs16.length = 16) (hi : i < 16) (hj : j < 16) (hk : k < 16) (hl : l < 16) : Calls Tryz.prog 84 [(.agg (xs16.map b32).toArray), (.int .i64 ((i : Nat) : Int)), (.int .i64 ((j : Nat) : Int)), (.int .i64 ((k : Nat) : Int)), (.int .i64 ((l : Nat) : Int))].toArray w (Ret (T := Unit) [] w (fun _ => True) (fun _ => (.agg ((qr4 xs16 i j k l).map b32).toArray)) (fun _ => [])) := by
 have hq := cq16 (i := i) (j := j) (k := k) (l := l) hx
 have hF : Wid Fence.wide := wid_wide
 refine enter (c := _) Tryz.func84 rfl [] _ [] (by rw [Tryz.ntmps84]; rfl) (own_rds hO rfl) ?_
 rw [Tryz.ntmps84]
 refine lE [(0, (.agg (xs16.map b32).toArray)), (1, (.int .i64 ((i : Nat) : Int))), (2, (.int .i64 ((j : Nat) : Int))), (3, (.int .i64 ((k : Nat) : Int))), (4, (.int .i64 ((l : Nat) : Int)))] ?_
 refine lH [] [] ?_
 refine lT ?_
 refine L_op rfl (op_box (zs := (xs16.map b32)) rfl rfl rfl rfl rfl (fun g1 => ?_))
 refine L_op rfl (op_alloc (z := .agg ((List.replicate 16 0#32).map b32).toArray) (zs := ((List.replicate 16 0#32).map b32)) kr rfl rfl rfl rfl (fun g2 => ?_))
 refine L_nil ?_
 refine T_seq ?_
 refine T_regD [.blk g2 101 ((List.replicate 16 0#32).map b32), .blk g1 101 (xs16.map b32)] 22 22 #[false, false, false, false, false, false, false, false, false, false, false, false, false, false, false, false, false, false, false, false, false, false] hF kr kr ?_
 refine D_pure (i := 0) [0, 1] rfl kr rfl (pr_move rfl rfl) (.inr rfl) rfl rfl ?_
 refine D_pure (i := 1) [0, 1] rfl kr rfl (pr_ixa (j := i) (m' := i) sd oM Tryz.underlying101 (z := 1) kr rfl rfl rfl) (.inr rfl) rfl rfl ?_
 refine D_pure (i := 3) [0, 1] rfl kr rfl (pr_move rfl rfl) (.inr rfl) rfl rfl ?_
 refine D_pure (i := 4) [0, 1] rfl kr rfl (pr_ixa (j := j) (m' := j) sd oM Tryz.underlying101 (z := 1) kr rfl rfl rfl) (.inr rfl) rfl rfl ?_
 refine D_pure (i := 6) [0, 1] rfl kr rfl (pr_move rfl rfl) (.inr rfl) rfl rfl ?_
 refine D_pure (i := 7) [0, 1] rfl kr rfl (pr_ixa (j := k) (m' := k) sd oM Tryz.underlying101 (z := 1) kr rfl rfl rfl) (.inr rfl) rfl rfl ?_
 refine D_pure (i := 9) [0, 1] rfl kr rfl (pr_move rfl rfl) (.inr rfl) rfl rfl ?_
 refine D_pure (i := 10) [0, 1] rfl kr rfl (pr_ixa (j := l) (m' := l) sd oM Tryz.underlying101 (z := 1) kr rfl rfl rfl) (.inr rfl) rfl rfl ?_
 refine D_take (i := 2) [0, 1] rfl kr rfl (ld_blk 1 rfl (get32 sd) Tryz.underlying61 rfl rfl rfl) rfl rfl rfl ?_
 refine D_take (i := 5) [0, 1] rfl kr rfl (ld_blk 1 rfl (get32 sd) Tryz.underlying61 rfl rfl rfl) rfl rfl rfl ?_
 refine D_take (i := 8) [0, 1] rfl kr rfl (ld_blk 1 rfl (get32 sd) Tryz.underlying61 rfl rfl rfl) rfl rfl rfl ?_
 refine D_take (i := 11) [0, 1] rfl kr rfl (ld_blk 1 rfl (get32 sd) Tryz.underlying61 rfl rfl rfl) rfl rfl rfl ?_
 refine D_one 12 _ rfl kr rfl (op_cn (fun w hw => rquarter_f (ath xs16 i) (ath xs16 j) (ath xs16 k) (ath xs16 l) w (hok_nil w) ) (enters_of Tryz.func96 kr rfl) rfl rfl rfl rfl rfl (fun t3 q4 => ?_))
 refine D_on [0, 1] rfl ?_
 refine D_pure (i := 13) [0, 1] rfl kr rfl (pr_move rfl rfl) (.inr rfl) rfl rfl ?_
 refine D_pure (i := 14) [0, 1] rfl kr rfl (pr_ext (vs := [(b32 (qa (ath xs16 i) (ath xs16 j) (ath xs16 k) (ath xs16 l))), (b32 (qb (ath xs16 i) (ath xs16 j) (ath xs16 k) (ath xs16 l))), (b32 (qc (ath xs16 i) (ath xs16 j) (ath xs16 k) (ath xs16 l))), (b32 (qd (ath xs16 i) (ath xs16 j) (ath xs16 k) (ath xs16 l)))]) rfl rfl rfl) (.inr rfl) rfl rfl ?_
 refine D_pure (i := 15) [0, 1] rfl kr rfl (pr_ext (vs := [(b32 (qa (ath xs16 i) (ath xs16 j) (ath xs16 k) (ath xs16 l))), (b32 (qb (ath xs16 i) (ath xs16 j) (ath xs16 k) (ath xs16 l))), (b32 (qc (ath xs16 i) (ath xs16 j) (ath xs16 k) (ath xs16 l))), (b32 (qd (ath xs16 i) (ath xs16 j) (ath xs16 k) (ath xs16 l)))]) rfl rfl rfl) (.inr rfl) rfl rfl ?_
 refine D_pure (i := 16) [0, 1] rfl kr rfl (pr_ext (vs := [(b32 (qa (ath xs16 i) (ath xs16 j) (ath xs16 k) (ath xs16 l))), (b32 (qb (ath xs16 i) (ath xs16 j) (ath xs16 k) (ath xs16 l))), (b32 (qc (ath xs16 i) (ath xs16 j) (ath xs16 k) (ath xs16 l))), (b32 (qd (ath xs16 i) (ath xs16 j) (ath xs16 k) (ath xs16 l)))]) rfl rfl rfl) (.inr rfl) rfl rfl ?_
 refine D_pure (i := 17) [0, 1] rfl kr rfl (pr_ext (vs := [(b32 (qa (ath xs16 i) (ath xs16 j) (ath xs16 k) (ath xs16 l))), (b32 (qb (ath xs16 i) (ath xs16 j) (ath xs16 k) (ath xs16 l))), (b32 (qc (ath xs16 i) (ath xs16 j) (ath xs16 k) (ath xs16 l))), (b32 (qd (ath xs16 i) (ath xs16 j) (ath xs16 k) (ath xs16 l)))]) rfl rfl rfl) (.inr rfl) rfl rfl ?_
 refine D_pure (i := 18) [0, 1] rfl kr rfl (pr_assign rfl rfl) (.inr rfl) rfl rfl ?_
 refine D_pure (i := 19) [0, 1] rfl kr rfl (pr_assign rfl rfl) (.inr rfl) rfl rfl ?_
 refine D_pure (i := 20) [0, 1] rfl kr rfl (pr_assign rfl rfl) (.inr rfl) rfl rfl ?_
 refine D_pure (i := 21) [0, 1] rfl kr rfl (pr_assign rfl rfl) (.inr rfl) rfl rfl ?_
 refine D_done kr ?_
 refine lT ?_
 refine lM ?_
 refine lM ?_
 refine lM ?_
 refine lM ?_
 refine lO (pr_ixa (j := i) (m' := i) sd oM Tryz.underlying101 (z := 1) kr rfl rfl rfl) ?_
 refine L_op rfl (op_store (vs := [(b32 (qa (ath xs16 i) (ath xs16 j) (ath xs16 k) (ath xs16 l)))]) (cs' := ((List.set xs16 i (qa (ath xs16 i) (ath xs16 j) (ath xs16 k) (ath xs16 l))).map b32)) 1 rfl rfl kr (one_one rfl) (stl sd) (splice_map (f := b32) sd) rfl rfl rfl rfl ?_)
 refine lO (pr_ixa (j := j) (m' := j) sd oM Tryz.underlying101 (z := 1) kr rfl rfl rfl) ?_
 refine L_op rfl (op_store (vs := [(b32 (qb (ath xs16 i) (ath xs16 j) (ath xs16 k) (ath xs16 l)))]) (cs' := ((List.set (List.set xs16 i (qa (ath xs16 i) (ath xs16 j) (ath xs16 k) (ath xs16 l))) j (qb (ath xs16 i) (ath xs16 j) (ath xs16 k) (ath xs16 l))).map b32)) 0 rfl rfl kr (one_one rfl) (stl sd) (splice_map (f := b32) sd) rfl rfl rfl rfl ?_)
 refine lN ?_
 refine lM ?_
 refine lM ?_
 refine lM ?_
 refine lM ?_
 refine lO (pr_ixa (j := k) (m' := k) sd oM Tryz.underlying101 (z := 1) kr rfl rfl rfl) ?_
 refine L_op rfl (op_store (vs := [(b32 (qc (ath xs16 i) (ath xs16 j) (ath xs16 k) (ath xs16 l)))]) (cs' := ((List.set (List.set (List.set xs16 i (qa (ath xs16 i) (ath xs16 j) (ath xs16 k) (ath xs16 l))) j (qb (ath xs16 i) (ath xs16 j) (ath xs16 k) (ath xs16 l))) k (qc (ath xs16 i) (ath xs16 j) (ath xs16 k) (ath xs16 l))).map b32)) 0 rfl rfl kr (one_one rfl) (stl sd) (splice_map (f := b32) sd) rfl rfl rfl rfl ?_)
 refine lO (pr_ixa (j := l) (m' := l) sd oM Tryz.underlying101 (z := 1) kr rfl rfl rfl) ?_
 refine L_op rfl (op_store (vs := [(b32 (qd (ath xs16 i) (ath xs16 j) (ath xs16 k) (ath xs16 l)))]) (cs' := ((List.set (List.set (List.set (List.set xs16 i (qa (ath xs16 i) (ath xs16 j) (ath xs16 k) (ath xs16 l))) j (qb (ath xs16 i) (ath xs16 j) (ath xs16 k) (ath xs16 l))) k (qc (ath xs16 i) (ath xs16 j) (ath xs16 k) (ath xs16 l))) l (qd (ath xs16 i) (ath xs16 j) (ath xs16 k) (ath xs16 l))).map b32)) 0 rfl rfl kr (one_one rfl) (stl sd) (splice_map (f := b32) sd) rfl rfl rfl rfl ?_)
 refine lN ?_
 refine lQ (ld_agg (ds := ((List.set (List.set (List.set (List.set xs16 i (qa (ath xs16 i) (ath xs16 j) (ath xs16 k) (ath xs16 l))) j (qb (ath xs16 i) (ath xs16 j) (ath xs16 k) (ath xs16 l))) k (qc (ath xs16 i) (ath xs16 j) (ath xs16 k) (ath xs16 l))) l (qd (ath xs16 i) (ath xs16 j) (ath xs16 k) (ath xs16 l))).map b32)) 0 rfl agg_all Tryz.underlying101 rfl (fwz (n := 16) kr sd) rfl rfl) ?_
 refine L_op rfl (op_sto (n := 16) (vs := ((List.set (List.set (List.set (List.set xs16 i (qa (ath xs16 i) (ath xs16 j) (ath xs16 k) (ath xs16 l))) j (qb (ath xs16 i) (ath xs16 j) (ath xs16 k) (ath xs16 l))) k (qc (ath xs16 i) (ath xs16 j) (ath xs16 k) (ath xs16 l))) l (qd (ath xs16 i) (ath xs16 j) (ath xs16 k) (ath xs16 l))).map b32)) 1 rfl rfl kr (all32_one _) kr sd rfl rfl rfl rfl ?_)
 refine L_nil ?_
 refine T_ret ?_
 refine T_as 0 _ (.blk g2 101 ((qr4 xs16 i j k l).map b32)) rfl (by rw [qr4_def]) ?_
 exact T_fin () qN (resb 0 rfl rfl rfl Tryz.underlying101 rfl (fwz (n := 16) kr sd)) [] ⟨by decide, rfl⟩ rfl
end Go.Proofs.YtlplpmkdebemnaaGreat
namespace Go.Proofs.YtlplpmkdebemnaaGreat
set_option maxRecDepth 100000
open Go.RowKit Bv Fw
set_option maxRecDepth 100000 in
set_option maxHeartbeats 4000000 in
theorem crblock_f (key : List (BitVec 8)) (ctr : BitVec 32) (nonce : List (BitVec 8)) (w : World) (hO : HOK [] w) (hk : key.length = 32) (hn : nonce.length = 12) : Calls Tryz.prog 59 [(.agg (key.map b8).toArray), (b32 ctr), (.agg (nonce.map b8).toArray)].toArray w (Ret (T := Unit) [] w (fun _ => True) (fun _ => (.agg ((cblock key ctr nonce).map b8).toArray)) (fun _ => [])) := by
 have hsa := cstA_len key
 have hsb := cstB_len key ctr nonce
 have hcr := fun k => (crounds_len (cstB key ctr nonce 3) k).trans (hsb 3)
 have hbl := cblock_len key ctr nonce
 have hpb := putb_len (crounds (cstB key ctr nonce 3) 10) (cstB key ctr nonce 3)
 have hF : Wid Fence.wide := wid_wide
 refine enter (c := _) Tryz.func59 rfl [] _ [] (by rw [Tryz.ntmps59]; rfl) (own_rds hO rfl) ?_
 rw [Tryz.ntmps59]
 refine lE [(0, (.agg (key.map b8).toArray)), (1, (b32 ctr)), (2, (.agg (nonce.map b8).toArray))] ?_
 refine lH [] [] ?_
 refine lT ?_
 refine L_op rfl (op_box (zs := (key.map b8)) rfl rfl rfl rfl rfl (fun g1 => ?_))
 refine L_op rfl (op_box (zs := (nonce.map b8)) rfl rfl rfl rfl rfl (fun g2 => ?_))
 refine L_op rfl (op_alloc (z := .agg ((List.replicate 64 0#8).map b8).toArray) (zs := ((List.replicate 64 0#8).map b8)) kr rfl rfl rfl rfl (fun g3 => ?_))
 refine lN ?_
 refine lO (pr_build (qs := [(0, (b32 (1634760805#32))), (1, (b32 (857760878#32))), (2, (b32 (2036477234#32))), (3, (b32 (1797285236#32)))]) (v := .agg ([1634760805#32, 857760878#32, 2036477234#32, 1797285236#32, 0#32, 0#32, 0#32, 0#32, 0#32, 0#32, 0#32, 0#32, 0#32, 0#32, 0#32, 0#32].map b32).toArray) (fun _ => by kernel_rfl) rfl rfl) ?_
 refine L_op rfl (op_alloc (z := .agg ((List.replicate 16 0#32).map b32).toArray) (zs := ((List.replicate 16 0#32).map b32)) kr rfl rfl rfl rfl (fun g4 => ?_))
 refine L_op rfl (op_sto (n := 16) (vs := ([1634760805#32, 857760878#32, 2036477234#32, 1797285236#32, 0#32, 0#32, 0#32, 0#32, 0#32, 0#32, 0#32, 0#32, 0#32, 0#32, 0#32, 0#32].map b32)) 0 rfl rfl kr (all32_one _) kr kr rfl rfl rfl rfl ?_)
 refine L_nil ?_
 refine T_seq ?_
 refine lT ?_
 refine lS ?_
 refine L_nil ?_
 refine T_block ?_
 refine T_as 0 _ (.blk g4 101 ((cstA key 0).map b32)) rfl (by rw [cstA_zero]) ?_
 refine T_loop (T := Nat) (fun i => i ≤ 8) (fun i => [(1, (b32 ctr)), (3, (.pointer (some ⟨g1, 0, none⟩))), (5, (.pointer (some ⟨g2, 0, none⟩))), (6, (.pointer (some ⟨g3, 0, none⟩))), (7, (.pointer (some ⟨g4, 0, none⟩))), (8, (.int .i64 ((i : Nat) : Int)))]) (fun i => [.blk g4 101 ((cstA key i).map b32), .blk g3 83 ((List.replicate 64 0#8).map b8), .blk g2 43 (nonce.map b8), .blk g1 22 (key.map b8)]) (fun i => 8 - i) 0 pN (sc rfl (sc rfl (sc rfl (sc rfl (sc rfl (sc rfl sn)))))) [0, 1, 2, 3] ⟨by decide, rfl⟩ ?_
 rintro i hp
 have hp : i ≤ 8 := hp
 have hsi := hsa i
 refine lE [(1, (b32 ctr)), (3, (.pointer (some ⟨g1, 0, none⟩))), (5, (.pointer (some ⟨g2, 0, none⟩))), (6, (.pointer (some ⟨g3, 0, none⟩))), (7, (.pointer (some ⟨g4, 0, none⟩))), (8, (.int .i64 ((i : Nat) : Int)))] ?_
 refine lH [0, 1, 2, 3] [.blk g4 101 ((cstA key i).map b32), .blk g3 83 ((List.replicate 64 0#8).map b8), .blk g2 43 (nonce.map b8), .blk g1 22 (key.map b8)] ?_
 refine T_seq ?_
 refine lT ?_
 refine lM ?_
 refine lO (pr_cmp (bo := .lss) (nc_lt (a := i) (b := 8)) rfl rfl rfl rfl) ?_
 refine L_nil ?_
 refine T_cond (decide (i < 8)) rfl (fun hc_5 => ?_) (fun hc_5 => ?_)
 ·have hc_5 := of_decide_eq_true hc_5
  refine T_skip ?_
  refine T_seq ?_
  refine T_block ?_
  refine lR ?_
  refine lM ?_
  refine lO (pr_add (na_i64 (a := 4) (b := i) sd) rfl rfl rfl) ?_
  refine lM ?_
  refine lO (pr_mul (nm_i64 (a := 4) (b := i) sd) rfl rfl rfl) ?_
  refine lM ?_
  refine lO (pr_mul (nm_i64 (a := 4) (b := i) sd) rfl rfl rfl) ?_
  refine lO (pr_add (na_i64 (a := 4 * i) (b := 4) sd) rfl rfl rfl) ?_
  refine lO (pr_sla (l := 4 * i) (u := 4 * i + 4) (m := 4 * i) sd sd sd oM Tryz.underlying22 (z := 1) kr rfl rfl ⟨_, rfl⟩ ⟨_, rfl⟩) ?_
  refine T_slot 26 _ (.slice (some ⟨g1, 4 * i, none⟩) 4 (32 - (4 * i))) rfl (by congr 1; omega) ?_
  refine L_op rfl (op_cn (fun w hw => rword_f (List.take 4 (List.drop (4 * i) key)) (some ⟨g1, 4 * i, none⟩) (32 - (4 * i)) w (hok_cons ((src_sub 3 rfl sd sd sd) w hw) (hok_nil w)) sd) (enters_of Tryz.func83 kr rfl) rfl rfl rfl rfl rfl (fun t6 q7 => ?_))
  refine lO (pr_ixa (j := 4 + i) (m' := 4 + i) sd oM Tryz.underlying101 (z := 1) kr rfl rfl rfl) ?_
  refine L_op rfl (op_store (vs := [(b32 ((low (List.take 4 (List.drop (4 * i) key)) 4).setWidth 32))]) (cs' := ((List.set (cstA key i) (4 + i) ((low (List.take 4 (List.drop (4 * i) key)) 4).setWidth 32)).map b32)) 0 rfl rfl kr (one_one rfl) (stl sd) (splice_map (f := b32) sd) rfl rfl rfl rfl ?_)
  refine L_nil ?_
  refine lR ?_
  refine lM ?_
  refine lO (pr_add (na_i64 (a := i) (b := 1) sd) rfl rfl rfl) ?_
  refine lS ?_
  refine L_nil ?_
  refine T_as 0 _ (.blk g4 101 ((cstA key (i + 1)).map b32)) rfl (by rw [cstA_succ, low_tk _ _ 4 oM, le32_def]) ?_
  exact T_again (i + 1) pN pN (sc rfl (sc rfl (sc rfl (sc rfl (sc rfl (sc rfl sn)))))) [0, 1, 2, 3] ⟨by decide, rfl⟩
 have hc_5 := of_decide_eq_false hc_5
 refine T_exit rfl ?_
 obtain rfl : 8 = i := by omega
 refine lT ?_
 refine lM ?_
 refine lO (pr_ixa (j := 12) (m' := 12) sd oM Tryz.underlying101 (z := 1) kr rfl rfl rfl) ?_
 refine L_op rfl (op_store (vs := [(b32 ctr)]) (cs' := ((List.set (cstA key 8) 12 ctr).map b32)) 0 rfl rfl kr (one_one rfl) (stl sd) (splice_map (f := b32) sd) rfl rfl rfl rfl ?_)
 refine L_nil ?_
 refine T_seq ?_
 refine lT ?_
 refine lS ?_
 refine L_nil ?_
 refine T_block ?_
 refine T_as 0 _ (.blk g4 101 ((cstB key ctr nonce 0).map b32)) rfl (by rw [cstB_zero]) ?_
 refine T_loop (T := Nat) (fun i => i ≤ 3) (fun i => [(5, (.pointer (some ⟨g2, 0, none⟩))), (6, (.pointer (some ⟨g3, 0, none⟩))), (7, (.pointer (some ⟨g4, 0, none⟩))), (9, (.int .i64 ((i : Nat) : Int)))]) (fun i => [.blk g4 101 ((cstB key ctr nonce i).map b32), .blk g3 83 ((List.replicate 64 0#8).map b8), .blk g2 43 (nonce.map b8), .blk g1 22 (key.map b8)]) (fun i => 3 - i) 0 pN (sc rfl (sc rfl (sc rfl (sc rfl sn)))) [0, 1, 2, 3] ⟨by decide, rfl⟩ ?_
 rintro i hp
 have hp : i ≤ 3 := hp
 have hsj := hsb i
 refine lE [(5, (.pointer (some ⟨g2, 0, none⟩))), (6, (.pointer (some ⟨g3, 0, none⟩))), (7, (.pointer (some ⟨g4, 0, none⟩))), (9, (.int .i64 ((i : Nat) : Int)))] ?_
 refine lH [0, 1, 2, 3] [.blk g4 101 ((cstB key ctr nonce i).map b32), .blk g3 83 ((List.replicate 64 0#8).map b8), .blk g2 43 (nonce.map b8), .blk g1 22 (key.map b8)] ?_
 refine T_seq ?_
 refine lT ?_
 refine lM ?_
 refine lO (pr_cmp (bo := .lss) (nc_lt (a := i) (b := 3)) rfl rfl rfl rfl) ?_
 refine L_nil ?_
 refine T_cond (decide (i < 3)) rfl (fun hc_8 => ?_) (fun hc_8 => ?_)
 ·have hc_8 := of_decide_eq_true hc_8
  refine T_skip ?_
  refine T_seq ?_
  refine T_block ?_
  refine lR ?_
  refine lM ?_
  refine lO (pr_add (na_i64 (a := 13) (b := i) sd) rfl rfl rfl) ?_
  refine lM ?_
  refine lO (pr_mul (nm_i64 (a := 4) (b := i) sd) rfl rfl rfl) ?_
  refine lM ?_
  refine lO (pr_mul (nm_i64 (a := 4) (b := i) sd) rfl rfl rfl) ?_
  refine lO (pr_add (na_i64 (a := 4 * i) (b := 4) sd) rfl rfl rfl) ?_
  refine lO (pr_sla (l := 4 * i) (u := 4 * i + 4) (m := 4 * i) sd sd sd oM Tryz.underlying43 (z := 1) kr rfl rfl ⟨_, rfl⟩ ⟨_, rfl⟩) ?_
  refine T_slot 42 _ (.slice (some ⟨g2, 4 * i, none⟩) 4 (12 - (4 * i))) rfl (by congr 1; omega) ?_
  refine L_op rfl (op_cn (fun w hw => rword_f (List.take 4 (List.drop (4 * i) nonce)) (some ⟨g2, 4 * i, none⟩) (12 - (4 * i)) w (hok_cons ((src_sub 2 rfl sd sd sd) w hw) (hok_nil w)) sd) (enters_of Tryz.func83 kr rfl) rfl rfl rfl rfl rfl (fun t9 q10 => ?_))
  refine lO (pr_ixa (j := 13 + i) (m' := 13 + i) sd oM Tryz.underlying101 (z := 1) kr rfl rfl rfl) ?_
  refine L_op rfl (op_store (vs := [(b32 ((low (List.take 4 (List.drop (4 * i) nonce)) 4).setWidth 32))]) (cs' := ((List.set (cstB key ctr nonce i) (13 + i) ((low (List.take 4 (List.drop (4 * i) nonce)) 4).setWidth 32)).map b32)) 0 rfl rfl kr (one_one rfl) (stl sd) (splice_map (f := b32) sd) rfl rfl rfl rfl ?_)
  refine L_nil ?_
  refine lR ?_
  refine lM ?_
  refine lO (pr_add (na_i64 (a := i) (b := 1) sd) rfl rfl rfl) ?_
  refine lS ?_
  refine L_nil ?_
  refine T_as 0 _ (.blk g4 101 ((cstB key ctr nonce (i + 1)).map b32)) rfl (by rw [cstB_succ, low_tk _ _ 4 oM, le32_def]) ?_
  exact T_again (i + 1) pN pN (sc rfl (sc rfl (sc rfl (sc rfl sn)))) [0, 1, 2, 3] ⟨by decide, rfl⟩
 have hc_8 := of_decide_eq_false hc_8
 refine T_exit rfl ?_
 obtain rfl : 3 = i := by omega
 refine lT ?_
 refine lQ (ld_agg (ds := ((cstB key ctr nonce 3).map b32)) 0 rfl agg_all Tryz.underlying101 rfl (fwz (n := 16) kr sd) rfl rfl) ?_
 refine L_op rfl (op_alloc (z := .agg ((List.replicate 16 0#32).map b32).toArray) (zs := ((List.replicate 16 0#32).map b32)) kr rfl rfl rfl rfl (fun g11 => ?_))
 refine L_op rfl (op_sto (n := 16) (vs := ((cstB key ctr nonce 3).map b32)) 0 rfl rfl kr (all32_one _) kr sd rfl rfl rfl rfl ?_)
 refine L_nil ?_
 refine T_seq ?_
 refine lT ?_
 refine lS ?_
 refine L_nil ?_
 refine T_block ?_
 refine T_as 0 _ (.blk g11 101 ((crounds (cstB key ctr nonce 3) 0).map b32)) rfl (by rw [crounds_zero]) ?_
 refine T_loop (T := Nat) (fun k => k ≤ 10) (fun k => [(6, (.pointer (some ⟨g3, 0, none⟩))), (7, (.pointer (some ⟨g4, 0, none⟩))), (10, (.pointer (some ⟨g11, 0, none⟩))), (11, (.int .i64 ((k : Nat) : Int)))]) (fun k => [.blk g11 101 ((crounds (cstB key ctr nonce 3) k).map b32), .blk g4 101 ((cstB key ctr nonce 3).map b32), .blk g3 83 ((List.replicate 64 0#8).map b8), .blk g2 43 (nonce.map b8), .blk g1 22 (key.map b8)]) (fun k => 10 - k) 0 pN (sc rfl (sc rfl (sc rfl (sc rfl sn)))) [0, 1, 2, 3, 4] ⟨by decide, rfl⟩ ?_
 rintro k hp
 have hp : k ≤ 10 := hp
 have hck := hcr k
 refine lE [(6, (.pointer (some ⟨g3, 0, none⟩))), (7, (.pointer (some ⟨g4, 0, none⟩))), (10, (.pointer (some ⟨g11, 0, none⟩))), (11, (.int .i64 ((k : Nat) : Int)))] ?_
 refine lH [0, 1, 2, 3, 4] [.blk g11 101 ((crounds (cstB key ctr nonce 3) k).map b32), .blk g4 101 ((cstB key ctr nonce 3).map b32), .blk g3 83 ((List.replicate 64 0#8).map b8), .blk g2 43 (nonce.map b8), .blk g1 22 (key.map b8)] ?_
 refine T_seq ?_
 refine lT ?_
 refine lM ?_
 refine lO (pr_cmp (bo := .lss) (nc_lt (a := k) (b := 10)) rfl rfl rfl rfl) ?_
 refine L_nil ?_
 refine T_cond (decide (k < 10)) rfl (fun hc_12 => ?_) (fun hc_12 => ?_)
 ·have hc_12 := of_decide_eq_true hc_12
  refine T_skip ?_
  refine T_seq ?_
  refine T_block ?_
  refine lT ?_
  refine lQ (ld_agg (ds := ((crounds (cstB key ctr nonce 3) k).map b32)) 0 rfl agg_all Tryz.underlying101 rfl (fwz (n := 16) kr sd) rfl rfl) ?_
  refine L_op rfl (op_cn (fun w hw => rround_f (crounds (cstB key ctr nonce 3) k) 0 4 8 12 w (hok_nil w) aS sd sd sd sd) (enters_of Tryz.func84 kr rfl) rfl rfl rfl rfl rfl (fun t13 q14 => ?_))
  obtain ⟨w1, hw1⟩ : ∃ x, (qr4 (crounds (cstB key ctr nonce 3) k) 0 4 8 12) = x := ⟨_, rfl⟩
  have hwl1 : w1.length = 16 := by rw [← hw1, qr4_len]; assumption
  refine T_slot 51 _ (.agg (w1.map b32).toArray) rfl (by rw [hw1]) ?_
  refine L_op rfl (op_sto (n := 16) (vs := (w1.map b32)) 0 rfl rfl kr (all32_one _) sd sd rfl rfl rfl rfl ?_)
  refine lN ?_
  refine lQ (ld_agg (ds := (w1.map b32)) 0 rfl agg_all Tryz.underlying101 rfl (fwz (n := 16) kr sd) rfl rfl) ?_
  refine L_op rfl (op_cn (fun w hw => rround_f w1 1 5 9 13 w (hok_nil w) aS sd sd sd sd) (enters_of Tryz.func84 kr rfl) rfl rfl rfl rfl rfl (fun t15 q16 => ?_))
  obtain ⟨w2, hw2⟩ : ∃ x, (qr4 w1 1 5 9 13) = x := ⟨_, rfl⟩
  have hwl2 : w2.length = 16 := by rw [← hw2, qr4_len]; assumption
  refine T_slot 53 (.agg ((qr4 w1 1 5 9 13).map b32).toArray) (.agg (w2.map b32).toArray) rfl (by rw [hw2]) ?_
  refine L_op rfl (op_sto (n := 16) (vs := (w2.map b32)) 0 rfl rfl kr (all32_one _) sd sd rfl rfl rfl rfl ?_)
  refine lN ?_
  refine lQ (ld_agg (ds := (w2.map b32)) 0 rfl agg_all Tryz.underlying101 rfl (fwz (n := 16) kr sd) rfl rfl) ?_
  refine L_op rfl (op_cn (fun w hw => rround_f w2 2 6 10 14 w (hok_nil w) aS sd sd sd sd) (enters_of Tryz.func84 kr rfl) rfl rfl rfl rfl rfl (fun t17 q18 => ?_))
  obtain ⟨w3, hw3⟩ : ∃ x, (qr4 w2 2 6 10 14) = x := ⟨_, rfl⟩
  have hwl3 : w3.length = 16 := by rw [← hw3, qr4_len]; assumption
  refine T_slot 55 (.agg ((qr4 w2 2 6 10 14).map b32).toArray) (.agg (w3.map b32).toArray) rfl (by rw [hw3]) ?_
  refine L_op rfl (op_sto (n := 16) (vs := (w3.map b32)) 0 rfl rfl kr (all32_one _) sd sd rfl rfl rfl rfl ?_)
  refine lN ?_
  refine lQ (ld_agg (ds := (w3.map b32)) 0 rfl agg_all Tryz.underlying101 rfl (fwz (n := 16) kr sd) rfl rfl) ?_
  refine L_op rfl (op_cn (fun w hw => rround_f w3 3 7 11 15 w (hok_nil w) aS sd sd sd sd) (enters_of Tryz.func84 kr rfl) rfl rfl rfl rfl rfl (fun t19 q20 => ?_))
  obtain ⟨w4, hw4⟩ : ∃ x, (qr4 w3 3 7 11 15) = x := ⟨_, rfl⟩
  have hwl4 : w4.length = 16 := by rw [← hw4, qr4_len]; assumption
  refine T_slot 57 (.agg ((qr4 w3 3 7 11 15).map b32).toArray) (.agg (w4.map b32).toArray) rfl (by rw [hw4]) ?_
  refine L_op rfl (op_sto (n := 16) (vs := (w4.map b32)) 0 rfl rfl kr (all32_one _) sd sd rfl rfl rfl rfl ?_)
  refine lN ?_
  refine lQ (ld_agg (ds := (w4.map b32)) 0 rfl agg_all Tryz.underlying101 rfl (fwz (n := 16) kr sd) rfl rfl) ?_
  refine L_op rfl (op_cn (fun w hw => rround_f w4 0 5 10 15 w (hok_nil w) aS sd sd sd sd) (enters_of Tryz.func84 kr rfl) rfl rfl rfl rfl rfl (fun t21 q22 => ?_))
  obtain ⟨w5, hw5⟩ : ∃ x, (qr4 w4 0 5 10 15) = x := ⟨_, rfl⟩
  have hwl5 : w5.length = 16 := by rw [← hw5, qr4_len]; assumption
  refine T_slot 59 (.agg ((qr4 w4 0 5 10 15).map b32).toArray) (.agg (w5.map b32).toArray) rfl (by rw [hw5]) ?_
  refine L_op rfl (op_sto (n := 16) (vs := (w5.map b32)) 0 rfl rfl kr (all32_one _) sd sd rfl rfl rfl rfl ?_)
  refine lN ?_
  refine lQ (ld_agg (ds := (w5.map b32)) 0 rfl agg_all Tryz.underlying101 rfl (fwz (n := 16) kr sd) rfl rfl) ?_
  refine L_op rfl (op_cn (fun w hw => rround_f w5 1 6 11 12 w (hok_nil w) aS sd sd sd sd) (enters_of Tryz.func84 kr rfl) rfl rfl rfl rfl rfl (fun t23 q24 => ?_))
  obtain ⟨w6, hw6⟩ : ∃ x, (qr4 w5 1 6 11 12) = x := ⟨_, rfl⟩
  have hwl6 : w6.length = 16 := by rw [← hw6, qr4_len]; assumption
  refine T_slot 61 (.agg ((qr4 w5 1 6 11 12).map b32).toArray) (.agg (w6.map b32).toArray) rfl (by rw [hw6]) ?_
  refine L_op rfl (op_sto (n := 16) (vs := (w6.map b32)) 0 rfl rfl kr (all32_one _) sd sd rfl rfl rfl rfl ?_)
  refine lN ?_
  refine lQ (ld_agg (ds := (w6.map b32)) 0 rfl agg_all Tryz.underlying101 rfl (fwz (n := 16) kr sd) rfl rfl) ?_
  refine L_op rfl (op_cn (fun w hw => rround_f w6 2 7 8 13 w (hok_nil w) aS sd sd sd sd) (enters_of Tryz.func84 kr rfl) rfl rfl rfl rfl rfl (fun t25 q26 => ?_))
  obtain ⟨w7, hw7⟩ : ∃ x, (qr4 w6 2 7 8 13) = x := ⟨_, rfl⟩
  have hwl7 : w7.length = 16 := by rw [← hw7, qr4_len]; assumption
  refine T_slot 63 (.agg ((qr4 w6 2 7 8 13).map b32).toArray) (.agg (w7.map b32).toArray) rfl (by rw [hw7]) ?_
  refine L_op rfl (op_sto (n := 16) (vs := (w7.map b32)) 0 rfl rfl kr (all32_one _) sd sd rfl rfl rfl rfl ?_)
  refine L_nil ?_
  refine lR ?_
  refine lQ (ld_agg (ds := (w7.map b32)) 0 rfl agg_all Tryz.underlying101 rfl (fwz (n := 16) kr sd) rfl rfl) ?_
  refine L_op rfl (op_cn (fun w hw => rround_f w7 3 4 9 14 w (hok_nil w) aS sd sd sd sd) (enters_of Tryz.func84 kr rfl) rfl rfl rfl rfl rfl (fun t27 q28 => ?_))
  obtain ⟨w8, hw8⟩ : ∃ x, (qr4 w7 3 4 9 14) = x := ⟨_, rfl⟩
  have hwl8 : w8.length = 16 := by rw [← hw8, qr4_len]; assumption
  refine T_slot 65 (.agg ((qr4 w7 3 4 9 14).map b32).toArray) (.agg (w8.map b32).toArray) rfl (by rw [hw8]) ?_
  refine L_op rfl (op_sto (n := 16) (vs := (w8.map b32)) 0 rfl rfl kr (all32_one _) sd sd rfl rfl rfl rfl ?_)
  refine L_nil ?_
  refine lR ?_
  refine lM ?_
  refine lO (pr_add (na_i64 (a := k) (b := 1) sd) rfl rfl rfl) ?_
  refine lS ?_
  refine L_nil ?_
  refine T_as 0 _ (.blk g11 101 ((crounds (cstB key ctr nonce 3) (k + 1)).map b32)) rfl (by rw [crounds_hand, hw1, hw2, hw3, hw4, hw5, hw6, hw7, hw8]) ?_
  exact T_again (k + 1) pN pN (sc rfl (sc rfl (sc rfl (sc rfl sn)))) [0, 1, 2, 3, 4] ⟨by decide, rfl⟩
 have hc_12 := of_decide_eq_false hc_12
 refine T_exit rfl ?_
 obtain rfl : 10 = k := by omega
 refine lT ?_
 refine L_op rfl (op_alloc (z := .agg ((List.replicate 64 0#8).map b8).toArray) (zs := ((List.replicate 64 0#8).map b8)) kr rfl rfl rfl rfl (fun g29 => ?_))
 refine L_nil ?_
 refine T_seq ?_
 refine lT ?_
 refine lS ?_
 refine L_nil ?_
 refine T_block ?_
 refine T_as 0 _ (.blk g29 83 ((putb (crounds (cstB key ctr nonce 3) 10) (cstB key ctr nonce 3) 0).map b8)) rfl (by rw [putb_zero]) ?_
 refine T_loop (T := Nat) (fun i => i ≤ 64) (fun i => [(6, (.pointer (some ⟨g3, 0, none⟩))), (7, (.pointer (some ⟨g4, 0, none⟩))), (10, (.pointer (some ⟨g11, 0, none⟩))), (12, (.pointer (some ⟨g29, 0, none⟩))), (13, (.int .i64 ((i : Nat) : Int)))]) (fun i => [.blk g29 83 ((putb (crounds (cstB key ctr nonce 3) 10) (cstB key ctr nonce 3) i).map b8), .blk g11 101 ((crounds (cstB key ctr nonce 3) 10).map b32), .blk g4 101 ((cstB key ctr nonce 3).map b32), .blk g3 83 ((List.replicate 64 0#8).map b8), .blk g2 43 (nonce.map b8), .blk g1 22 (key.map b8)]) (fun i => 64 - i) 0 pN (sc rfl (sc rfl (sc rfl (sc rfl (sc rfl sn))))) [0, 1, 2, 3, 4, 5] ⟨by decide, rfl⟩ ?_
 rintro i hp
 have hp : i ≤ 64 := hp
 have hpi := hpb i
 have hc10 := hcr 10
 refine lE [(6, (.pointer (some ⟨g3, 0, none⟩))), (7, (.pointer (some ⟨g4, 0, none⟩))), (10, (.pointer (some ⟨g11, 0, none⟩))), (12, (.pointer (some ⟨g29, 0, none⟩))), (13, (.int .i64 ((i : Nat) : Int)))] ?_
 refine lH [0, 1, 2, 3, 4, 5] [.blk g29 83 ((putb (crounds (cstB key ctr nonce 3) 10) (cstB key ctr nonce 3) i).map b8), .blk g11 101 ((crounds (cstB key ctr nonce 3) 10).map b32), .blk g4 101 ((cstB key ctr nonce 3).map b32), .blk g3 83 ((List.replicate 64 0#8).map b8), .blk g2 43 (nonce.map b8), .blk g1 22 (key.map b8)] ?_
 refine T_seq ?_
 refine lT ?_
 refine lM ?_
 refine lO (pr_cmp (bo := .lss) (nc_lt (a := i) (b := 64)) rfl rfl rfl rfl) ?_
 refine L_nil ?_
 refine T_cond (decide (i < 64)) rfl (fun hc_30 => ?_) (fun hc_30 => ?_)
 ·have hc_30 := of_decide_eq_true hc_30
  refine T_skip ?_
  refine T_seq ?_
  refine T_block ?_
  refine T_regD [.blk g29 83 ((putb (crounds (cstB key ctr nonce 3) 10) (cstB key ctr nonce 3) i).map b8), .blk g11 101 ((crounds (cstB key ctr nonce 3) 10).map b32), .blk g4 101 ((cstB key ctr nonce 3).map b32), .blk g3 83 ((List.replicate 64 0#8).map b8), .blk g2 43 (nonce.map b8), .blk g1 22 (key.map b8)] 17 18 #[false, false, false, false, false, false, false, false, false, false, false, false, false, false, false, false, false, false] hF kr kr ?_
  refine D_pure (i := 0) [0, 1, 2, 3, 4, 5] rfl kr rfl (pr_move rfl rfl) (.inr rfl) rfl rfl ?_
  refine D_pure (i := 1) [0, 1, 2, 3, 4, 5] rfl kr rfl (pr_move rfl rfl) (.inr rfl) rfl rfl ?_
  refine D_pure (i := 2) [0, 1, 2, 3, 4, 5] rfl kr rfl (pr_quo (a := i) (b := 4) sd sd rfl rfl rfl) (.inr rfl) rfl rfl ?_
  refine D_pure (i := 3) [0, 1, 2, 3, 4, 5] rfl kr rfl (pr_ixa (j := i / 4) (m' := i / 4) sd oM Tryz.underlying101 (z := 1) kr rfl rfl rfl) (.inr rfl) rfl rfl ?_
  refine D_pure (i := 5) [0, 1, 2, 3, 4, 5] rfl kr rfl (pr_move rfl rfl) (.inr rfl) rfl rfl ?_
  refine D_pure (i := 6) [0, 1, 2, 3, 4, 5] rfl kr rfl (pr_quo (a := i) (b := 4) sd sd rfl rfl rfl) (.inr rfl) rfl rfl ?_
  refine D_pure (i := 7) [0, 1, 2, 3, 4, 5] rfl kr rfl (pr_ixa (j := i / 4) (m' := i / 4) sd oM Tryz.underlying101 (z := 1) kr rfl rfl rfl) (.inr rfl) rfl rfl ?_
  refine D_pure (i := 10) [0, 1, 2, 3, 4, 5] rfl kr rfl (pr_move rfl rfl) (.inr rfl) rfl rfl ?_
  refine D_pure (i := 11) [0, 1, 2, 3, 4, 5] rfl kr rfl (pr_rem (a := i) (b := 4) sd rfl rfl rfl) (.inr rfl) rfl rfl ?_
  refine D_pure (i := 12) [0, 1, 2, 3, 4, 5] rfl kr rfl (pr_mul (nm_i64 (a := 8) (b := i % 4) sd) rfl rfl rfl) (.inr rfl) rfl rfl ?_
  refine D_pure (i := 13) [0, 1, 2, 3, 4, 5] rfl kr rfl (pr_cv (ni_u64 (a := 8 * (i % 4)) sd) Tryz.underlying3 Tryz.underlying39 rfl rfl) (.inr rfl) rfl rfl ?_
  refine D_take (i := 4) [0, 1, 2, 3, 4, 5] rfl kr rfl (ld_blk 1 rfl (get32 sd) Tryz.underlying61 rfl rfl rfl) rfl rfl rfl ?_
  refine D_take (i := 8) [0, 1, 2, 3, 4, 5] rfl kr rfl (ld_blk 2 rfl (get32 sd) Tryz.underlying61 rfl rfl rfl) rfl rfl rfl ?_
  refine D_pure (i := 9) [0, 1, 2, 3, 4, 5] rfl kr rfl (pr_add (add32 _ _) rfl rfl rfl) (.inr rfl) rfl rfl ?_
  refine D_pure (i := 14) [0, 1, 2, 3, 4, 5] rfl kr rfl (pr_shift (sh_shr32 ((ath (crounds (cstB key ctr nonce 3) 10) (i / 4)) + (ath (cstB key ctr nonce 3) (i / 4))) _ (8 * (i % 4))) rfl rfl rfl rfl) (.inr rfl) rfl rfl ?_
  refine D_pure (i := 15) [0, 1, 2, 3, 4, 5] rfl kr rfl (pr_cv (cv32_8 _) Tryz.underlying61 Tryz.underlying5 rfl rfl) (.inr rfl) rfl rfl ?_
  refine D_pure (i := 16) [0, 1, 2, 3, 4, 5] rfl kr rfl (pr_ixa (j := i) (m' := i) sd oM Tryz.underlying83 (z := 1) kr rfl rfl rfl) (.inr rfl) rfl rfl ?_
  refine D_one 17 _ rfl kr rfl (op_store (vs := [(b8 ((((ath (crounds (cstB key ctr nonce 3) 10) (i / 4)) + (ath (cstB key ctr nonce 3) (i / 4))) >>> (8 * (i % 4))).setWidth 8))]) (cs' := ((List.set (putb (crounds (cstB key ctr nonce 3) 10) (cstB key ctr nonce 3) i) i ((((ath (crounds (cstB key ctr nonce 3) 10) (i / 4)) + (ath (cstB key ctr nonce 3) (i / 4))) >>> (8 * (i % 4))).setWidth 8)).map b8)) 0 rfl rfl kr (one_one rfl) (stl sd) (splice_map (f := b8) sd) rfl rfl rfl rfl ?_)
  refine D_past kr ?_
  refine D_done kr ?_
  refine lR ?_
  refine lM ?_
  refine lO (pr_add (na_i64 (a := i) (b := 1) sd) rfl rfl rfl) ?_
  refine lS ?_
  refine L_nil ?_
  refine T_as 0 _ (.blk g29 83 ((putb (crounds (cstB key ctr nonce 3) 10) (cstB key ctr nonce 3) (i + 1)).map b8)) rfl (by rw [putb_succ]) ?_
  exact T_again (i + 1) pN pN (sc rfl (sc rfl (sc rfl (sc rfl (sc rfl sn))))) [0, 1, 2, 3, 4, 5] ⟨by decide, rfl⟩
 have hc_30 := of_decide_eq_false hc_30
 refine T_exit rfl ?_
 obtain rfl : 64 = i := by omega
 refine lT ?_
 refine lQ (ld_agg (ds := ((putb (crounds (cstB key ctr nonce 3) 10) (cstB key ctr nonce 3) 64).map b8)) 0 rfl agg_all Tryz.underlying83 rfl (fwz (n := 64) kr sd) rfl rfl) ?_
 refine L_op rfl (op_sto (n := 64) (vs := ((putb (crounds (cstB key ctr nonce 3) 10) (cstB key ctr nonce 3) 64).map b8)) 3 rfl rfl kr (all8_one _) kr sd rfl rfl rfl rfl ?_)
 refine L_nil ?_
 refine T_ret ?_
 refine T_as 0 _ (.blk g3 83 ((cblock key ctr nonce).map b8)) rfl (by rw [putb_outb, cblock_def]) ?_
 exact T_fin () qN (resb 0 rfl rfl rfl Tryz.underlying83 rfl (fwz (n := 64) kr sd)) [] ⟨by decide, rfl⟩ rfl
set_option maxHeartbeats 4000000 in
theorem blocks_seq (key : List (BitVec 8)) (ctr : BitVec 32) (nonce : List (BitVec 8)) (g1 : Nat) (g2 : Nat) (g3 : Nat) (N : Nat) (hk : key.length = 32) (hn : nonce.length = 12) : SeqX true (Θ := Unit) Tryz.prog 73 [(.pointer (some ⟨g1, 0, none⟩)), (.pointer (some ⟨g2, 0, none⟩)), (.pointer (some ⟨g3, 0, none⟩))] [.rd (some ⟨g1, 0, none⟩) 1 1 1 [(b32 ctr)], .rd (some ⟨g2, 0, none⟩) 1 32 32 (key.map b8), .rd (some ⟨g3, 0, none⟩) 1 12 12 (nonce.map b8)] N (fun k _ => [(.agg ((cblock key (ctr + (BitVec.ofNat 32 k)) nonce).map b8).toArray)]) (fun k _ => []) := by
 have hF : Wid Fence.wide := wid_wide
 refine enter_seq (c := _) Tryz.func73 rfl (by rw [Tryz.ntmps73]; rfl) rfl ?_
 intro l J Jx W O R hsJ hsX hy hend
 rw [Tryz.ntmps73]
 refine lE [(0, (.func (.yield l) #[] #[])), (1, (.pointer (some ⟨g1, 0, none⟩))), (2, (.pointer (some ⟨g2, 0, none⟩))), (3, (.pointer (some ⟨g3, 0, none⟩)))] ?_
 refine lH [0, 1, 2, 3] [.inv W.heap.size O R (J 0 O R), .rd (some ⟨g1, 0, none⟩) 1 1 1 [(b32 ctr)], .rd (some ⟨g2, 0, none⟩) 1 32 32 (key.map b8), .rd (some ⟨g3, 0, none⟩) 1 12 12 (nonce.map b8)] ?_
 refine lT ?_
 refine lQ (ld_rdb (src_rd 1 rfl) rfl Tryz.underlying61 rfl rfl rfl) ?_
 refine lS ?_
 refine L_nil ?_
 refine T_block ?_
 refine T_slot 5 (b32 ctr) (b32 (ctr + (BitVec.ofNat 32 0))) rfl (by rw [ctr_zero]) ?_
 refine T_loop (T := Nat × List Nat × List Nat) (fun ⟨k, O, R⟩ => k ≤ N) (fun ⟨k, O, R⟩ => [(0, (.func (.yield l) #[] #[])), (2, (.pointer (some ⟨g2, 0, none⟩))), (3, (.pointer (some ⟨g3, 0, none⟩))), (5, (b32 (ctr + (BitVec.ofNat 32 k))))]) (fun ⟨k, O, R⟩ => [.inv W.heap.size O R (J k O R), .rd (some ⟨g1, 0, none⟩) 1 1 1 [(b32 ctr)], .rd (some ⟨g2, 0, none⟩) 1 32 32 (key.map b8), .rd (some ⟨g3, 0, none⟩) 1 12 12 (nonce.map b8)]) (fun ⟨k, O, R⟩ => N - k) (0, O, R) pN (sc rfl (sc rfl (sc rfl (sc rfl sn)))) [0, 1, 2, 3] ⟨by decide, rfl⟩ ?_
 rintro ⟨k, O, R⟩ hp
 have hp : k ≤ N := hp
 refine lE [(0, (.func (.yield l) #[] #[])), (2, (.pointer (some ⟨g2, 0, none⟩))), (3, (.pointer (some ⟨g3, 0, none⟩))), (5, (b32 (ctr + (BitVec.ofNat 32 k))))] ?_
 refine lH [0, 1, 2, 3] [.inv W.heap.size O R (J k O R), .rd (some ⟨g1, 0, none⟩) 1 1 1 [(b32 ctr)], .rd (some ⟨g2, 0, none⟩) 1 32 32 (key.map b8), .rd (some ⟨g3, 0, none⟩) 1 12 12 (nonce.map b8)] ?_
 refine T_seq ?_
 refine T_seq ?_
 refine T_regI ?_
 refine LI_opP hF rfl rfl (op_pr (pr_move rfl rfl) rfl rfl ?_)
 refine LI_opP hF rfl rfl (op_ld (ld_aggs (ds := (key.map b8)) (src_rd 2 rfl) (List.take_length) (by have h1 : ((key.map b8)).length = 32 := sd; omega) Tryz.underlying22 rfl (fwz (n := 32) kr sd) rfl rfl) rfl rfl ?_)
 refine LI_opP hF rfl rfl (op_pr (pr_move rfl rfl) rfl rfl ?_)
 refine LI_opP hF rfl rfl (op_ld (ld_aggs (ds := (nonce.map b8)) (src_rd 3 rfl) (List.take_length) (by have h1 : ((nonce.map b8)).length = 12 := sd; omega) Tryz.underlying43 rfl (fwz (n := 12) kr sd) rfl rfl) rfl rfl ?_)
 refine LI_opP hF rfl rfl (op_cn (fun w hw => cblock_f key (ctr + (BitVec.ofNat 32 k)) nonce w (hok_nil w) aS aS) (enters_of Tryz.func55 kr rfl) rfl rfl rfl rfl rfl (fun t1 q2 => ?_))
 refine T_know (p := k ≠ N) (fun w hw e => hend rfl _ _ _ (e ▸ (hw _ (List.mem_of_getElem? (i := 0) rfl)).1)) (fun hke_3 => ?_)
 refine LI_op rfl (op_yield (k := k) () hy sd hsJ hsX 0 rfl [] rfl rfl rfl rfl rfl rfl rfl rfl rfl (fun _ => trivial) (fun O4 R5 => ?_) (fun O6 R7 => ?_))
 ·refine LI_nil ?_
  refine T_cond_t rfl ?_
  refine T_skip ?_
  refine T_seq ?_
  refine T_block ?_
  refine T_skip ?_
  refine lR ?_
  refine lM ?_
  refine lO (pr_add (add32 _ (1#32)) rfl rfl rfl) ?_
  refine lS ?_
  refine L_nil ?_
  refine T_slot 5 (b32 ((ctr + (BitVec.ofNat 32 k)) + 1#32)) (b32 (ctr + (BitVec.ofNat 32 (k + 1)))) rfl (by rw [ctr_next]) ?_
  exact T_again (k + 1, O4, R5) pN pN (sc rfl (sc rfl (sc rfl (sc rfl sn)))) [0, 1, 2, 3] ⟨by decide, rfl⟩
 refine LI_nil ?_
 refine T_cond_f rfl ?_
 refine T_exit rfl ?_
 exact T_finX rfl rfl 0 rfl
set_option maxHeartbeats 4000000 in
theorem blocks_f (key : List (BitVec 8)) (nonce : List (BitVec 8)) (ctr : BitVec 32) (w : World) (hO : HOK [] w) (hk : key.length = 32) (hn : nonce.length = 12) : Calls Tryz.prog 54 [(.agg (key.map b8).toArray), (.agg (nonce.map b8).toArray), (b32 ctr)].toArray w (Ret (T := Nat × Nat × Nat) [] w (fun ⟨g1, g2, g3⟩ => True) (fun ⟨g1, g2, g3⟩ => (.func (.func 73) #[] [(.pointer (some ⟨g1, 0, none⟩)), (.pointer (some ⟨g2, 0, none⟩)), (.pointer (some ⟨g3, 0, none⟩))].toArray)) (fun ⟨g1, g2, g3⟩ => [.old (some ⟨g1, 0, none⟩) 1 1 1 [(b32 ctr)], .old (some ⟨g2, 0, none⟩) 1 32 32 (key.map b8), .old (some ⟨g3, 0, none⟩) 1 12 12 (nonce.map b8)])) := by
 refine enter (c := _) Tryz.func54 rfl [] _ [] (by rw [Tryz.ntmps54]; rfl) (own_rds hO rfl) ?_
 rw [Tryz.ntmps54]
 refine lE [(0, (.agg (key.map b8).toArray)), (1, (.agg (nonce.map b8).toArray)), (2, (b32 ctr))] ?_
 refine lH [] [] ?_
 refine lT ?_
 refine L_op rfl (op_box (zs := (key.map b8)) rfl rfl rfl rfl rfl (fun g1 => ?_))
 refine L_op rfl (op_box (zs := (nonce.map b8)) rfl rfl rfl rfl rfl (fun g2 => ?_))
 refine L_op rfl (op_box (zs := [(b32 ctr)]) rfl rfl rfl rfl rfl (fun g3 => ?_))
 refine lS ?_
 refine lN ?_
 refine lO (pr_mkfn (us := []) (vs := [(.pointer (some ⟨g3, 0, none⟩)), (.pointer (some ⟨g1, 0, none⟩)), (.pointer (some ⟨g2, 0, none⟩))]) rfl rfl rfl) ?_
 refine lS ?_
 refine L_nil ?_
 refine T_ret ?_
 refine T_oldb 0 (zs := [(b32 ctr)]) 0 1 1 1 rfl rfl rfl sd sd ?_
 refine T_oldb 2 (zs := (key.map b8)) 0 1 32 32 rfl sd (by rw [List.drop_zero, List.take_of_length_le (by simp; omega)]) sd sd ?_
 refine T_oldb 2 (zs := (nonce.map b8)) 0 1 12 12 rfl sd (by rw [List.drop_zero, List.take_of_length_le (by simp; omega)]) sd sd ?_
 exact T_fin (g3, g1, g2) qN (res1 rfl rfl) [2, 1, 0] ⟨by decide, rfl⟩ rfl
theorem xor_blk (i : Nat) (h : i % 64 = 0) (h2 : ¬ (i + 1) % 64 = 0) : (i + 1) / 64 = i / 64 := by omega
theorem xor_blk2 (i : Nat) (h2 : ¬ (i + 1) % 64 = 0) : (i + 1) / 64 = i / 64 := by omega
set_option maxHeartbeats 4000000 in
theorem rxor_f (key : List (BitVec 8)) (nonce : List (BitVec 8)) (ctr : BitVec 32) (xs : List (BitVec 8)) (A : Option Addr) (n : Nat) (c : Nat) (w : World) (hO : HOK [.rd A 1 n c (xs.map b8)] w) (hk : key.length = 32) (hn : nonce.length = 12) (hx : xs.length = n) (hn9 : n ≤ 100000000) : Calls Tryz.prog 40 [(.agg (key.map b8).toArray), (.agg (nonce.map b8).toArray), (b32 ctr), (.slice A n c)].toArray w (Ret (T := Option Addr × Nat) [] w (fun ⟨B, d⟩ => True) (fun ⟨B, d⟩ => (.slice B n d)) (fun ⟨B, d⟩ => [.row (.slice B n d) 5 1 n ((cxor key nonce ctr xs).map b8)])) := by
 have hbl := fun c => cblock_len key c nonce
 have hF : Wid Fence.wide := wid_wide
 refine enter (c := _) Tryz.func40 rfl [] _ [.rd A 1 n c (xs.map b8)] (by rw [Tryz.ntmps40]; rfl) (own_rds hO rfl) ?_
 rw [Tryz.ntmps40]
 refine lE [(0, (.agg (key.map b8).toArray)), (1, (.agg (nonce.map b8).toArray)), (2, (b32 ctr)), (3, (.slice A n c))] ?_
 refine lH [0] [.rd A 1 n c (xs.map b8)] ?_
 refine lT ?_
 refine L_op rfl (op_box (zs := (key.map b8)) rfl rfl rfl rfl rfl (fun g1 => ?_))
 refine L_op rfl (op_box (zs := (nonce.map b8)) rfl rfl rfl rfl rfl (fun g2 => ?_))
 refine lS ?_
 refine lN ?_
 refine lS ?_
 refine lN ?_
 refine L_op rfl (op_alloc (z := .agg ((List.replicate 64 0#8).map b8).toArray) (zs := ((List.replicate 64 0#8).map b8)) kr rfl rfl rfl rfl (fun g3 => ?_))
 refine L_nil ?_
 refine T_seq ?_
 refine lT ?_
 refine lS ?_
 refine L_nil ?_
 refine T_block ?_
 refine T_nilrow 5 1 ?_
 refine T_as 0 _ (.row (.slice none 0 0) 5 1 0 ((xorb key nonce ctr xs (0)).map b8)) rfl (by rw [xorb_zero]; rfl) ?_
 refine T_loop (T := Nat × Option Addr × Nat × List (BitVec 8)) (fun ⟨i, A1, c1, ks⟩ => i ≤ n ∧ ks.length = 64 ∧ (¬ i % 64 = 0 → ks = cblock key (ctr + BitVec.ofNat 32 (i / 64)) nonce)) (fun ⟨i, A1, c1, ks⟩ => [(2, (b32 ctr)), (3, (.slice A n c)), (4, (.pointer (some ⟨g1, 0, none⟩))), (5, (.pointer (some ⟨g2, 0, none⟩))), (9, (.slice A1 i c1)), (10, (.pointer (some ⟨g3, 0, none⟩))), (11, (.int .i64 ((i : Nat) : Int)))]) (fun ⟨i, A1, c1, ks⟩ => [.row (.slice A1 i c1) 5 1 i ((xorb key nonce ctr xs (i)).map b8), .blk g3 83 (ks.map b8), .blk g2 43 (nonce.map b8), .blk g1 22 (key.map b8), .rd A 1 n c (xs.map b8)]) (fun ⟨i, A1, c1, ks⟩ => n - i) (0, none, 0, List.replicate 64 0#8) (⟨by omega, by simp, fun h => absurd rfl h⟩) (sc rfl (sc rfl (sc rfl (sc rfl (sc rfl (sc rfl (sc rfl sn))))))) [0, 1, 2, 3, 4] ⟨by decide, rfl⟩ ?_
 rintro ⟨i, A1, c1, ks⟩ hp
 have hp : i ≤ n ∧ ks.length = 64 ∧ (¬ i % 64 = 0 → ks = cblock key (ctr + BitVec.ofNat 32 (i / 64)) nonce) := hp
 have hkl := hp.2.1
 refine lE [(2, (b32 ctr)), (3, (.slice A n c)), (4, (.pointer (some ⟨g1, 0, none⟩))), (5, (.pointer (some ⟨g2, 0, none⟩))), (9, (.slice A1 i c1)), (10, (.pointer (some ⟨g3, 0, none⟩))), (11, (.int .i64 ((i : Nat) : Int)))] ?_
 refine lH [0, 1, 2, 3, 4] [.row (.slice A1 i c1) 5 1 i ((xorb key nonce ctr xs (i)).map b8), .blk g3 83 (ks.map b8), .blk g2 43 (nonce.map b8), .blk g1 22 (key.map b8), .rd A 1 n c (xs.map b8)] ?_
 refine T_seq ?_
 refine lT ?_
 refine lM ?_
 refine lM ?_
 refine lO (pr_len_sl Tryz.underlying27 rfl rfl) ?_
 refine lO (pr_cmp (bo := .lss) (nc_lt (a := i) (b := n)) rfl rfl rfl rfl) ?_
 refine L_nil ?_
 refine T_cond (decide (i < n)) rfl (fun hc_4 => ?_) (fun hc_4 => ?_)
 ·have hc_4 := of_decide_eq_true hc_4
  refine T_skip ?_
  refine T_seq ?_
  refine T_block ?_
  refine T_seq ?_
  refine lT ?_
  refine lM ?_
  refine lO (pr_rem (a := i) (b := 64) sd rfl rfl rfl) ?_
  refine lO (pr_cmp (bo := .eql) (nc_eq (a := i % 64) (b := 0)) rfl rfl rfl rfl) ?_
  refine L_nil ?_
  refine T_cond (i % 64 == 0) rfl (fun hc_5 => ?_) (fun hc_5 => ?_)
  ·have hc_5 : i % 64 = 0 := by simpa using hc_5
   refine lR ?_
   refine lQ (ld_agg (ds := (key.map b8)) 3 rfl agg_all Tryz.underlying22 rfl (fwz (n := 32) kr sd) rfl rfl) ?_
   refine lM ?_
   refine lM ?_
   refine lO (pr_quo (a := i) (b := 64) sd sd rfl rfl rfl) ?_
   refine lO (pr_cv (nw32 (i / 64)) Tryz.underlying3 Tryz.underlying61 rfl rfl) ?_
   refine lO (pr_add (add32 _ _) rfl rfl rfl) ?_
   refine lQ (ld_agg (ds := (nonce.map b8)) 2 rfl agg_all Tryz.underlying43 rfl (fwz (n := 12) kr sd) rfl rfl) ?_
   refine L_op rfl (op_cn (fun w hw => crblock_f key (ctr + (BitVec.ofNat 32 (i / 64))) nonce w (hok_nil w) aS aS) (enters_of Tryz.func59 kr rfl) rfl rfl rfl rfl rfl (fun t6 q7 => ?_))
   refine L_op rfl (op_sto (n := 64) (vs := ((cblock key (ctr + (BitVec.ofNat 32 (i / 64))) nonce).map b8)) 1 rfl rfl kr (all8_one _) sd sd rfl rfl rfl rfl ?_)
   refine L_nil ?_
   refine T_regD [.blk g3 83 ((cblock key (ctr + (BitVec.ofNat 32 (i / 64))) nonce).map b8), .row (.slice A1 i c1) 5 1 i ((xorb key nonce ctr xs (i)).map b8), .blk g2 43 (nonce.map b8), .blk g1 22 (key.map b8), .rd A 1 n c (xs.map b8)] 11 13 #[false, false, false, false, false, false, false, false, false, false, false, false, false] hF kr kr ?_
   refine D_pure (i := 0) [0, 1, 2, 3, 4] rfl kr rfl (pr_move rfl rfl) (.inr rfl) rfl rfl ?_
   refine D_pure (i := 1) [0, 1, 2, 3, 4] rfl kr rfl (pr_move rfl rfl) (.inr rfl) rfl rfl ?_
   refine D_pure (i := 2) [0, 1, 2, 3, 4] rfl kr rfl (pr_move rfl rfl) (.inr rfl) rfl rfl ?_
   refine D_pure (i := 3) [0, 1, 2, 3, 4] rfl kr rfl (pr_ixs1 (j := i) (src_none (src_rd 4 rfl)) sd Tryz.underlying27 kr rfl rfl rfl) (.inr rfl) rfl rfl ?_
   refine D_pure (i := 5) [0, 1, 2, 3, 4] rfl kr rfl (pr_move rfl rfl) (.inr rfl) rfl rfl ?_
   refine D_pure (i := 6) [0, 1, 2, 3, 4] rfl kr rfl (pr_rem (a := i) (b := 64) sd rfl rfl rfl) (.inr rfl) rfl rfl ?_
   refine D_pure (i := 7) [0, 1, 2, 3, 4] rfl kr rfl (pr_ixa (j := i % 64) (m' := i % 64) sd oM Tryz.underlying83 (z := 1) kr rfl rfl rfl) (.inr rfl) rfl rfl ?_
   refine D_take (i := 4) [0, 1, 2, 3, 4] rfl kr rfl (ld_src (m := i) (src_rd 4 rfl) (get8 sd) Tryz.underlying5 rfl rfl rfl) rfl rfl rfl ?_
   refine D_take (i := 8) [0, 1, 2, 3, 4] rfl kr rfl (ld_blk 0 rfl (get8 sd) Tryz.underlying5 rfl rfl rfl) rfl rfl rfl ?_
   refine D_pure (i := 9) [0, 1, 2, 3, 4] rfl kr rfl (pr_xor (ib_xor8 _ _) rfl rfl rfl) (.inr rfl) rfl rfl ?_
   refine D_one 10 _ rfl kr rfl (op_bslice (e := 5) (zs := [(b8 ((ath xs i) ^^^ (ath (cblock key (ctr + (BitVec.ofNat 32 (i / 64))) nonce) (i % 64))))]) (qs := [(0, (b8 ((ath xs i) ^^^ (ath (cblock key (ctr + (BitVec.ofNat 32 (i / 64))) nonce) (i % 64)))))]) (fun _ => by kernel_rfl) rfl rfl rfl rfl (fun g8 => ?_))
   refine D_on [1, 2, 3, 4, 5] rfl ?_
   refine D_one 11 _ rfl kr rfl (op_append (z := (b8 (0#8))) (size := 1) (bytes := 1) 2 rfl Tryz.underlying27 kr kr (by decide) (src_full (z := 1) 0 rfl rfl sd sd) (by simp [Value.oneCell']) sd sd rfl rfl rfl rfl rfl (fun A9 C10 => ?_))
   refine T_as 0 _ (.row (.slice A9 (i + 1) C10) 5 1 (i + 1) (((xorb key nonce ctr xs (i)) ++ [((ath xs i) ^^^ (ath (cblock key (ctr + (BitVec.ofNat 32 (i / 64))) nonce) (i % 64)))]).map b8)) rfl (by congr 1; simp; done) ?_
   refine D_past kr ?_
   refine D_pure (i := 12) [] rfl kr rfl (pr_assign rfl rfl) (.inl kr) rfl rfl ?_
   refine D_done kr ?_
   refine lR ?_
   refine lM ?_
   refine lO (pr_add (na_i64 (a := i) (b := 1) sd) rfl rfl rfl) ?_
   refine lS ?_
   refine L_nil ?_
   refine T_as 0 _ (.row (.slice A9 (i + 1) C10) 5 1 (i + 1) ((xorb key nonce ctr xs ((i + 1))).map b8)) rfl (by rw [xorb_succ]) ?_
   exact T_again (i + 1, A9, C10, (cblock key (ctr + (BitVec.ofNat 32 (i / 64))) nonce)) (by exact ⟨by omega, hbl _, fun h => by rw [xor_blk i aS h]⟩) pN (sc rfl (sc rfl (sc rfl (sc rfl (sc rfl (sc rfl (sc rfl sn))))))) [0, 2, 3, 4, 5] ⟨by decide, rfl⟩
  have hc_5 : ¬ i % 64 = 0 := by simpa using hc_5
  refine T_skip ?_
  refine T_regD [.row (.slice A1 i c1) 5 1 i ((xorb key nonce ctr xs (i)).map b8), .blk g3 83 (ks.map b8), .blk g2 43 (nonce.map b8), .blk g1 22 (key.map b8), .rd A 1 n c (xs.map b8)] 11 13 #[false, false, false, false, false, false, false, false, false, false, false, false, false] hF kr kr ?_
  refine D_pure (i := 0) [0, 1, 2, 3, 4] rfl kr rfl (pr_move rfl rfl) (.inr rfl) rfl rfl ?_
  refine D_pure (i := 1) [0, 1, 2, 3, 4] rfl kr rfl (pr_move rfl rfl) (.inr rfl) rfl rfl ?_
  refine D_pure (i := 2) [0, 1, 2, 3, 4] rfl kr rfl (pr_move rfl rfl) (.inr rfl) rfl rfl ?_
  refine D_pure (i := 3) [0, 1, 2, 3, 4] rfl kr rfl (pr_ixs1 (j := i) (src_none (src_rd 4 rfl)) sd Tryz.underlying27 kr rfl rfl rfl) (.inr rfl) rfl rfl ?_
  refine D_pure (i := 5) [0, 1, 2, 3, 4] rfl kr rfl (pr_move rfl rfl) (.inr rfl) rfl rfl ?_
  refine D_pure (i := 6) [0, 1, 2, 3, 4] rfl kr rfl (pr_rem (a := i) (b := 64) sd rfl rfl rfl) (.inr rfl) rfl rfl ?_
  refine D_pure (i := 7) [0, 1, 2, 3, 4] rfl kr rfl (pr_ixa (j := i % 64) (m' := i % 64) sd oM Tryz.underlying83 (z := 1) kr rfl rfl rfl) (.inr rfl) rfl rfl ?_
  refine D_take (i := 4) [0, 1, 2, 3, 4] rfl kr rfl (ld_src (m := i) (src_rd 4 rfl) (get8 sd) Tryz.underlying5 rfl rfl rfl) rfl rfl rfl ?_
  refine D_take (i := 8) [0, 1, 2, 3, 4] rfl kr rfl (ld_blk 1 rfl (get8 sd) Tryz.underlying5 rfl rfl rfl) rfl rfl rfl ?_
  refine D_pure (i := 9) [0, 1, 2, 3, 4] rfl kr rfl (pr_xor (ib_xor8 _ _) rfl rfl rfl) (.inr rfl) rfl rfl ?_
  refine D_one 10 _ rfl kr rfl (op_bslice (e := 5) (zs := [(b8 ((ath xs i) ^^^ (ath ks (i % 64))))]) (qs := [(0, (b8 ((ath xs i) ^^^ (ath ks (i % 64)))))]) (fun _ => by kernel_rfl) rfl rfl rfl rfl (fun g11 => ?_))
  refine D_on [1, 2, 3, 4, 5] rfl ?_
  refine D_one 11 _ rfl kr rfl (op_append (z := (b8 (0#8))) (size := 1) (bytes := 1) 1 rfl Tryz.underlying27 kr kr (by decide) (src_full (z := 1) 0 rfl rfl sd sd) (by simp [Value.oneCell']) sd sd rfl rfl rfl rfl rfl (fun A12 C13 => ?_))
  refine T_as 0 _ (.row (.slice A12 (i + 1) C13) 5 1 (i + 1) (((xorb key nonce ctr xs (i)) ++ [((ath xs i) ^^^ (ath ks (i % 64)))]).map b8)) rfl (by congr 1; simp; done) ?_
  refine D_past kr ?_
  refine D_pure (i := 12) [] rfl kr rfl (pr_assign rfl rfl) (.inl kr) rfl rfl ?_
  refine D_done kr ?_
  refine lR ?_
  refine lM ?_
  refine lO (pr_add (na_i64 (a := i) (b := 1) sd) rfl rfl rfl) ?_
  refine lS ?_
  refine L_nil ?_
  refine T_as 0 _ (.row (.slice A12 (i + 1) C13) 5 1 (i + 1) ((xorb key nonce ctr xs ((i + 1))).map b8)) rfl (by rw [xorb_succ, hp.2.2 aS]) ?_
  exact T_again (i + 1, A12, C13, ks) (by exact ⟨by omega, hp.2.1, fun h => by rw [hp.2.2 aS, xor_blk2 i h]⟩) pN (sc rfl (sc rfl (sc rfl (sc rfl (sc rfl (sc rfl (sc rfl sn))))))) [0, 2, 3, 4, 5] ⟨by decide, rfl⟩
 have hc_4 := of_decide_eq_false hc_4
 refine T_exit rfl ?_
 obtain rfl : n = i := by omega
 refine lT ?_
 refine lM ?_
 refine lS ?_
 refine L_nil ?_
 refine T_ret ?_
 refine T_as 0 _ (.row (.slice A1 n c1) 5 1 n ((cxor key nonce ctr xs).map b8)) rfl (by rw [cxor_def _ _ _ _ _ hx]) ?_
 exact T_fin (A1, c1) qN (res1 rfl rfl) [0] ⟨by decide, rfl⟩ rfl
theorem xor_at {key nonce : List (BitVec 8)} {ctr : BitVec 32} (k i : Nat) (h : i < 64) : ath (cblock key (ctr + BitVec.ofNat 32 ((64 * k + i) / 64)) nonce) ((64 * k + i) % 64) = ath (cblock key (ctr + BitVec.ofNat 32 k) nonce) i := by
  rw [show (64 * k + i) / 64 = k by omega, show (64 * k + i) % 64 = i by omega]
set_option maxRecDepth 100000 in
set_option maxHeartbeats 4000000 in
theorem xor_pos_f (key : List (BitVec 8)) (nonce : List (BitVec 8)) (ctr : BitVec 32) (xs : List (BitVec 8)) (A : Option Addr) (n : Nat) (c : Nat) (w : World) (hO : HOK [.rd A 1 n c (xs.map b8)] w) (hk : key.length = 32) (hn : nonce.length = 12) (hx : xs.length = n) (hn9 : n ≤ 100000000) (hpos : 0 < n) : Calls Tryz.prog 35 [(.agg (key.map b8).toArray), (.agg (nonce.map b8).toArray), (b32 ctr), (.slice A n c)].toArray w (Ret (T := Option Addr × Nat) [] w (fun ⟨B, d⟩ => True) (fun ⟨B, d⟩ => (.slice B n d)) (fun ⟨B, d⟩ => [.row (.slice B n d) 5 1 n ((cxor key nonce ctr xs).map b8)])) := by
 have hbl := fun c => cblock_len key c nonce
 have hF : Wid Fence.wide := wid_wide
 refine enter_m (c := _) Tryz.func35 rfl [] _ [.rd A 1 n c (xs.map b8)] (by rw [Tryz.ntmps35]; rfl) (own_rds hO rfl) ?_
 rw [Tryz.ntmps35]
 refine lE [(0, (.agg (key.map b8).toArray)), (1, (.agg (nonce.map b8).toArray)), (2, (b32 ctr)), (3, (.slice A n c))] ?_
 refine lH [0] [.rd A 1 n c (xs.map b8)] ?_
 refine lT ?_
 refine L_op rfl (op_box (zs := (key.map b8)) rfl rfl rfl rfl rfl (fun g1 => ?_))
 refine L_op rfl (op_box (zs := (nonce.map b8)) rfl rfl rfl rfl rfl (fun g2 => ?_))
 refine L_op rfl (op_box (zs := [(.slice A n c)]) rfl rfl rfl rfl rfl (fun g3 => ?_))
 refine lS ?_
 refine L_nil ?_
 refine T_scope rfl ?_
 refine lT ?_
 refine lQ (ld_blk 0 rfl rfl Tryz.underlying27 rfl rfl rfl) ?_
 refine lO (pr_len_sl Tryz.underlying27 rfl rfl) ?_
 refine L_op rfl (op_make (z := (b8 (0#8))) (n := 0) (c := n) Tryz.underlying27 (bytes := 1) kr rfl sd sd sd rfl rfl rfl rfl rfl (fun g4 => ?_))
 refine T_as 0 _ (.blk g4 5 ((List.replicate n 0#8).map b8)) rfl (by rw [List.map_replicate]) ?_
 refine L_op rfl (op_alloc (z := (.slice none 0 0)) (zs := [(.slice none 0 0)]) kr rfl rfl rfl rfl (fun g5 => ?_))
 refine L_op rfl (op_store (vs := [(.slice (some ⟨g4, 0, none⟩) 0 n)]) (cs' := [(.slice (some ⟨g4, 0, none⟩) 0 n)]) 0 rfl rfl kr (one_one rfl) (by simp) rfl rfl rfl rfl rfl ?_)
 refine L_nil ?_
 refine T_seq ?_
 refine lT ?_
 refine lQ (ld_blk 2 rfl rfl Tryz.underlying27 rfl rfl rfl) ?_
 refine lO (pr_len_sl Tryz.underlying27 rfl rfl) ?_
 refine lO (pr_cmp (bo := .eql) (nc_eq (a := n) (b := 0)) rfl rfl rfl rfl) ?_
 refine L_nil ?_
 refine T_cond_no (t := (n == 0)) rfl (by simp; omega) ?_
 refine T_skip ?_
 refine T_seq ?_
 refine T_label ?_
 refine T_seq ?_
 refine lT ?_
 refine lQ (ld_agg (ds := (key.map b8)) 4 rfl agg_all Tryz.underlying22 rfl (fwz (n := 32) kr sd) rfl rfl) ?_
 refine lQ (ld_agg (ds := (nonce.map b8)) 3 rfl agg_all Tryz.underlying43 rfl (fwz (n := 12) kr sd) rfl rfl) ?_
 refine lM ?_
 refine L_op rfl (op_cn (fun w hw => blocks_f key nonce ctr w (hok_nil w) aS aS) (enters_of Tryz.func54 kr rfl) rfl rfl rfl rfl rfl (fun t6 q7 => ?_))
 obtain ⟨g1_8, g2_9, g3_10⟩ := t6
 refine L_nil ?_
 refine T_block ?_
 refine T_tord 0 rfl ?_
 refine T_tord 1 rfl ?_
 refine T_tord 2 rfl ?_
 refine T_as 3 _ (.blk g5 27 [(.slice (some ⟨g4, 0, none⟩) (64 * 0) n)]) rfl (by rfl) ?_
 refine T_rowb 4 (zs := ((xorb key nonce ctr xs (64 * 0)).map b8)) 1 (64 * 0) n rfl sd sd sd (by rw [show 64 * 0 = 0 from rfl, xorb_zero]; rfl) ?_
 refine T_range (Θ := Unit) (T := Option Addr × Nat) (Tx := Option Addr × Nat) (cap := [(.pointer (some ⟨g1_8, 0, none⟩)), (.pointer (some ⟨g2_9, 0, none⟩)), (.pointer (some ⟨g3_10, 0, none⟩))]) (ps := [24]) (blocks_seq key ctr nonce g1_8 g2_9 g3_10 n sd sd) rfl (enters_of Tryz.func73 kr rfl) (fun k ⟨A1, c1⟩ => 64 * k < n) (fun k ⟨A1, c1⟩ => [.rd (some ⟨g3_10, 0, none⟩) 1 12 12 (nonce.map b8), .rd (some ⟨g2_9, 0, none⟩) 1 32 32 (key.map b8), .rd (some ⟨g1_8, 0, none⟩) 1 1 1 [(b32 ctr)], .blk g5 27 [(.slice A1 (64 * k) c1)], .row (.slice A1 (64 * k) c1) 5 1 (64 * k) ((xorb key nonce ctr xs (64 * k)).map b8), .blk g3 27 [(.slice A n c)], .blk g2 43 (nonce.map b8), .blk g1 22 (key.map b8), .rd A 1 n c (xs.map b8)]) (fun ⟨A1, c1⟩ => True) (fun ⟨A1, c1⟩ => [.rd (some ⟨g3_10, 0, none⟩) 1 12 12 (nonce.map b8), .rd (some ⟨g2_9, 0, none⟩) 1 32 32 (key.map b8), .rd (some ⟨g1_8, 0, none⟩) 1 1 1 [(b32 ctr)], .blk g5 27 [(.slice A1 n c1)], .row (.slice A1 n c1) 5 1 n ((cxor key nonce ctr xs).map b8), .blk g3 27 [(.slice A n c)], .blk g2 43 (nonce.map b8), .blk g1 22 (key.map b8), .rd A 1 n c (xs.map b8)]) 0 (some ⟨g4, 0, none⟩, n) oM [2, 3, 4, 1, 0, 5, 6, 7, 8] ⟨by decide, rfl⟩ [4, 3, 2] rfl rfl (fun _ _ => rfl) (fun _ => rfl) (fun _ _ => rfl) (fun _ _ => rfl) rfl (fun _ => trivial) (hE := fun _ t hp => by omega) ?_ ?_ ?_
 ·intro C2 w2 lo2 rs2 l D m k t th rc hrec hk hp
  obtain ⟨A1, c1⟩ := t
  have hp : 64 * k < n := hp
  have hk : k < n := hk
  have hblk := hbl (ctr + BitVec.ofNat 32 k)
  have hF : Wid (Fence.wide.inRound l) := wid_round l
  refine lE [(7, (.pointer (some ⟨g3, 0, none⟩))), (9, (.pointer (some ⟨g5, 0, none⟩))), (24, (.agg ((cblock key (ctr + (BitVec.ofNat 32 k)) nonce).map b8).toArray))] ?_
  refine lH [0, 1, 2, 3, 4, 5, 6, 7, 8, 9, 10] [.obj l (.loop rc), .obj D (.deferred (some [])), .rd (some ⟨g3_10, 0, none⟩) 1 12 12 (nonce.map b8), .rd (some ⟨g2_9, 0, none⟩) 1 32 32 (key.map b8), .rd (some ⟨g1_8, 0, none⟩) 1 1 1 [(b32 ctr)], .blk g5 27 [(.slice A1 (64 * k) c1)], .row (.slice A1 (64 * k) c1) 5 1 (64 * k) ((xorb key nonce ctr xs (64 * k)).map b8), .blk g3 27 [(.slice A n c)], .blk g2 43 (nonce.map b8), .blk g1 22 (key.map b8), .rd A 1 n c (xs.map b8)] ?_
  refine lR ?_
  refine L_op rfl (op_alloc (z := .agg ((List.replicate 64 0#8).map b8).toArray) (zs := ((List.replicate 64 0#8).map b8)) kr rfl rfl rfl rfl (fun g11 => ?_))
  refine L_op rfl (op_sto (n := 64) (vs := ((cblock key (ctr + (BitVec.ofNat 32 k)) nonce).map b8)) 0 rfl rfl kr (all8_one _) kr sd rfl rfl rfl rfl ?_)
  refine L_nil ?_
  refine T_begun 1 rfl hrec ?_
  refine T_block ?_
  refine lT ?_
  refine lQ (ld_agg (ds := ((cblock key (ctr + (BitVec.ofNat 32 k)) nonce).map b8)) 1 rfl agg_all Tryz.underlying83 rfl (fwz (n := 64) kr sd) rfl rfl) ?_
  refine lM ?_
  refine L_nil ?_
  refine T_block ?_
  refine T_as 6 _ (.blk g5 27 [(.slice A1 (64 * k + 0) c1)]) rfl (by rfl) ?_
  refine T_as 7 _ (.row (.slice A1 (64 * k + 0) c1) 5 1 (64 * k + 0) ((xorb key nonce ctr xs (64 * k + 0)).map b8)) rfl (by rfl) ?_
  refine T_loop (T := Nat × Option Addr × Nat) (fun ⟨i, A2, c2⟩ => i ≤ 64 ∧ 64 * k + i < n) (fun ⟨i, A2, c2⟩ => [(7, (.pointer (some ⟨g3, 0, none⟩))), (9, (.pointer (some ⟨g5, 0, none⟩))), (25, (.agg ((cblock key (ctr + (BitVec.ofNat 32 k)) nonce).map b8).toArray)), (26, (.int .i64 ((i : Nat) : Int)))]) (fun ⟨i, A2, c2⟩ => [.obj l (.loop { rc with state := .busy }), .blk g11 83 ((cblock key (ctr + (BitVec.ofNat 32 k)) nonce).map b8), .obj D (.deferred (some [])), .rd (some ⟨g3_10, 0, none⟩) 1 12 12 (nonce.map b8), .rd (some ⟨g2_9, 0, none⟩) 1 32 32 (key.map b8), .rd (some ⟨g1_8, 0, none⟩) 1 1 1 [(b32 ctr)], .blk g5 27 [(.slice A2 (64 * k + i) c2)], .row (.slice A2 (64 * k + i) c2) 5 1 (64 * k + i) ((xorb key nonce ctr xs (64 * k + i)).map b8), .blk g3 27 [(.slice A n c)], .blk g2 43 (nonce.map b8), .blk g1 22 (key.map b8), .rd A 1 n c (xs.map b8)]) (fun ⟨i, A2, c2⟩ => 64 - i) (0, A1, c1) pN (sc rfl (sc rfl (sc rfl (sc rfl sn)))) [2, 3, 4, 5, 6, 7, 1, 0, 8, 9, 10, 11] ⟨by decide, rfl⟩ ?_
  rintro ⟨i, A2, c2⟩ hp
  have hp : i ≤ 64 ∧ 64 * k + i < n := hp
  refine lE [(7, (.pointer (some ⟨g3, 0, none⟩))), (9, (.pointer (some ⟨g5, 0, none⟩))), (25, (.agg ((cblock key (ctr + (BitVec.ofNat 32 k)) nonce).map b8).toArray)), (26, (.int .i64 ((i : Nat) : Int)))] ?_
  refine lH [0, 1, 2, 3, 4, 5, 6, 7, 8, 9, 10, 11] [.obj l (.loop { rc with state := .busy }), .blk g11 83 ((cblock key (ctr + (BitVec.ofNat 32 k)) nonce).map b8), .obj D (.deferred (some [])), .rd (some ⟨g3_10, 0, none⟩) 1 12 12 (nonce.map b8), .rd (some ⟨g2_9, 0, none⟩) 1 32 32 (key.map b8), .rd (some ⟨g1_8, 0, none⟩) 1 1 1 [(b32 ctr)], .blk g5 27 [(.slice A2 (64 * k + i) c2)], .row (.slice A2 (64 * k + i) c2) 5 1 (64 * k + i) ((xorb key nonce ctr xs (64 * k + i)).map b8), .blk g3 27 [(.slice A n c)], .blk g2 43 (nonce.map b8), .blk g1 22 (key.map b8), .rd A 1 n c (xs.map b8)] ?_
  refine lT ?_
  refine lO (pr_cmp (bo := .lss) (nc_lt (a := i) (b := 64)) rfl rfl rfl rfl) ?_
  refine L_nil ?_
  refine T_seq ?_
  refine T_cond (decide (i < 64)) rfl (fun hc_12 => ?_) (fun hc_12 => ?_)
  ·have hc_12 := of_decide_eq_true hc_12
   refine T_skip ?_
   refine T_seq ?_
   refine T_block ?_
   refine lT ?_
   refine lO (pr_ix (cs := ((cblock key (ctr + (BitVec.ofNat 32 k)) nonce).map b8)) (j := i) sd (get8 sd) Tryz.underlying83 Tryz.underlying5 rfl kr rfl rfl rfl) ?_
   refine lS ?_
   refine L_nil ?_
   refine T_seq ?_
   refine T_regD [.obj l (.loop { rc with state := .busy }), .blk g11 83 ((cblock key (ctr + (BitVec.ofNat 32 k)) nonce).map b8), .obj D (.deferred (some [])), .rd (some ⟨g3_10, 0, none⟩) 1 12 12 (nonce.map b8), .rd (some ⟨g2_9, 0, none⟩) 1 32 32 (key.map b8), .rd (some ⟨g1_8, 0, none⟩) 1 1 1 [(b32 ctr)], .blk g5 27 [(.slice A2 (64 * k + i) c2)], .row (.slice A2 (64 * k + i) c2) 5 1 (64 * k + i) ((xorb key nonce ctr xs (64 * k + i)).map b8), .blk g3 27 [(.slice A n c)], .blk g2 43 (nonce.map b8), .blk g1 22 (key.map b8), .rd A 1 n c (xs.map b8)] 9 11 #[false, false, false, false, false, false, false, false, false, false, false] hF kr kr ?_
   refine D_pure (i := 6) [0, 1, 2, 3, 4, 5, 6, 7, 8, 9, 10, 11] rfl kr rfl (pr_move rfl rfl) (.inr rfl) rfl rfl ?_
   refine D_take (i := 0) [0, 1, 2, 3, 4, 5, 6, 7, 8, 9, 10, 11] rfl kr rfl (ld_blk 6 rfl rfl Tryz.underlying27 rfl rfl rfl) rfl rfl rfl ?_
   refine D_take (i := 1) [0, 1, 2, 3, 4, 5, 6, 7, 8, 9, 10, 11] rfl kr rfl (ld_blk 8 rfl rfl Tryz.underlying27 rfl rfl rfl) rfl rfl rfl ?_
   refine D_take (i := 2) [0, 1, 2, 3, 4, 5, 6, 7, 8, 9, 10, 11] rfl kr rfl (ld_blk 6 rfl rfl Tryz.underlying27 rfl rfl rfl) rfl rfl rfl ?_
   refine D_pure (i := 3) [0, 1, 2, 3, 4, 5, 6, 7, 8, 9, 10, 11] rfl kr rfl (pr_len_sl Tryz.underlying27 rfl rfl) (.inr rfl) rfl rfl ?_
   refine D_pure (i := 4) [0, 1, 2, 3, 4, 5, 6, 7, 8, 9, 10, 11] rfl kr rfl (pr_ixs1 (j := 64 * k + i) (src_none (src_rd 11 rfl)) sd Tryz.underlying27 kr rfl rfl rfl) (.inr rfl) rfl rfl ?_
   refine D_take (i := 5) [0, 1, 2, 3, 4, 5, 6, 7, 8, 9, 10, 11] rfl kr rfl (ld_src (m := 64 * k + i) (src_rd 11 rfl) (get8 sd) Tryz.underlying5 rfl rfl rfl) rfl rfl rfl ?_
   refine D_pure (i := 7) [0, 1, 2, 3, 4, 5, 6, 7, 8, 9, 10, 11] rfl kr rfl (pr_xor (ib_xor8 _ _) rfl rfl rfl) (.inr rfl) rfl rfl ?_
   refine D_one 8 _ rfl kr rfl (op_bslice (e := 5) (zs := [(b8 ((ath xs (64 * k + i)) ^^^ (ath (cblock key (ctr + (BitVec.ofNat 32 k)) nonce) i)))]) (qs := [(0, (b8 ((ath xs (64 * k + i)) ^^^ (ath (cblock key (ctr + (BitVec.ofNat 32 k)) nonce) i))))]) (fun _ => by kernel_rfl) rfl rfl rfl rfl (fun g13 => ?_))
   refine D_on [1, 2, 3, 4, 5, 6, 7, 8, 9, 10, 11, 12] rfl ?_
   refine D_one 9 _ rfl kr rfl (op_append (z := (b8 (0#8))) (size := 1) (bytes := 1) 8 rfl Tryz.underlying27 kr kr (by decide) (src_full (z := 1) 0 rfl rfl sd sd) (by simp [Value.oneCell']) sd sd rfl rfl rfl rfl rfl (fun A14 C15 => ?_))
   refine T_as 0 _ (.row (.slice A14 (64 * k + i + 1) C15) 5 1 (64 * k + i + 1) (((xorb key nonce ctr xs (64 * k + i)) ++ [((ath xs (64 * k + i)) ^^^ (ath (cblock key (ctr + (BitVec.ofNat 32 k)) nonce) i))]).map b8)) rfl (by congr 1; simp; done) ?_
   refine D_past kr ?_
   refine D_one 10 _ rfl kr rfl (op_store (vs := [(.slice A14 (64 * k + i + 1) C15)]) (cs' := [(.slice A14 (64 * k + i + 1) C15)]) 8 rfl rfl kr (one_one rfl) (by simp) rfl rfl rfl rfl rfl ?_)
   refine D_past kr ?_
   refine D_done kr ?_
   refine lT ?_
   refine lQ (ld_blk 0 rfl rfl Tryz.underlying27 rfl rfl rfl) ?_
   refine lO (pr_len_sl Tryz.underlying27 rfl rfl) ?_
   refine lQ (ld_blk 9 rfl rfl Tryz.underlying27 rfl rfl rfl) ?_
   refine lO (pr_len_sl Tryz.underlying27 rfl rfl) ?_
   refine lO (pr_cmp (bo := .eql) (nc_eq (a := 64 * k + i + 1) (b := n)) rfl rfl rfl rfl) ?_
   refine L_nil ?_
   refine T_cond (64 * k + i + 1 == n) rfl (fun hc_16 => ?_) (fun hc_16 => ?_)
   ·have hc_16 : 64 * k + i + 1 = n := by simpa using hc_16
    refine T_exit rfl ?_
    have hnn : 64 * k + i + 1 = n := by assumption
    refine T_as 0 _ (.blk g5 27 [(.slice A14 n C15)]) rfl (by rw [hnn]) ?_
    refine T_as 1 _ (.row (.slice A14 n C15) 5 1 n ((cxor key nonce ctr xs).map b8)) rfl (by rw [← xor_at k i oM, ← xorb_succ, hnn, cxor_def _ _ _ _ _ hx]) ?_
    exact T_on (A14, C15) pN [3, 5, 6, 7, 8, 1, 0, 9, 10, 11, 12] ⟨by decide, rfl⟩
   have hc_16 : ¬ 64 * k + i + 1 = n := by simpa using hc_16
   refine T_skip ?_
   refine lR ?_
   refine lO (pr_add (na_i64 (a := i) (b := 1) sd) rfl rfl rfl) ?_
   refine lM ?_
   refine L_nil ?_
   refine T_as 0 _ (.blk g5 27 [(.slice A14 (64 * k + (i + 1)) C15)]) rfl (by rw [← Nat.add_assoc]) ?_
   refine T_as 1 _ (.row (.slice A14 (64 * k + (i + 1)) C15) 5 1 (64 * k + (i + 1)) ((xorb key nonce ctr xs (64 * k + (i + 1))).map b8)) rfl (by rw [← Nat.add_assoc, xorb_succ, xor_at k i oM]) ?_
   exact T_again (i + 1, A14, C15) (⟨by omega, by omega⟩) pN (sc rfl (sc rfl (sc rfl (sc rfl sn)))) [3, 4, 5, 6, 7, 8, 1, 0, 9, 10, 11, 12] ⟨by decide, rfl⟩
  have hc_12 := of_decide_eq_false hc_12
  refine T_exit rfl ?_
  obtain rfl : 64 = i := by omega
  refine T_as 6 _ (.blk g5 27 [(.slice A2 (64 * (k + 1)) c2)]) rfl (by rw [show 64 * (k + 1) = 64 * k + 64 by omega]) ?_
  refine T_as 7 _ (.row (.slice A2 (64 * (k + 1)) c2) 5 1 (64 * (k + 1)) ((xorb key nonce ctr xs (64 * (k + 1))).map b8)) rfl (by rw [show 64 * (k + 1) = 64 * k + 64 by omega]) ?_
  exact T_on (A2, c2) oM [2, 4, 5, 6, 7, 1, 0, 8, 9, 10, 11] ⟨by decide, rfl⟩
 ·intro D t hp
  obtain ⟨A1, c1⟩ := t
  have hp : 64 * n < n := hp
  refine lE [(9, (.pointer (some ⟨g5, 0, none⟩)))] ?_
  refine lH [0, 1, 2, 3, 4, 5, 6, 7, 8, 9] [.obj D (.deferred (some [])), .rd (some ⟨g3_10, 0, none⟩) 1 12 12 (nonce.map b8), .rd (some ⟨g2_9, 0, none⟩) 1 32 32 (key.map b8), .rd (some ⟨g1_8, 0, none⟩) 1 1 1 [(b32 ctr)], .blk g5 27 [(.slice A1 (64 * n) c1)], .row (.slice A1 (64 * n) c1) 5 1 (64 * n) ((xorb key nonce ctr xs (64 * n)).map b8), .blk g3 27 [(.slice A n c)], .blk g2 43 (nonce.map b8), .blk g1 22 (key.map b8), .rd A 1 n c (xs.map b8)] ?_
  exfalso; omega
 intro D t hq
 obtain ⟨A1, c1⟩ := t
 have hq : True := hq
 refine T_exit rfl ?_
 refine lE [(9, (.pointer (some ⟨g5, 0, none⟩)))] ?_
 refine lH [0, 1, 2, 3, 4, 5, 6, 7, 8, 9] [.obj D (.deferred (some [])), .rd (some ⟨g3_10, 0, none⟩) 1 12 12 (nonce.map b8), .rd (some ⟨g2_9, 0, none⟩) 1 32 32 (key.map b8), .rd (some ⟨g1_8, 0, none⟩) 1 1 1 [(b32 ctr)], .blk g5 27 [(.slice A1 n c1)], .row (.slice A1 n c1) 5 1 n ((cxor key nonce ctr xs).map b8), .blk g3 27 [(.slice A n c)], .blk g2 43 (nonce.map b8), .blk g1 22 (key.map b8), .rd A 1 n c (xs.map b8)] ?_
 refine lT ?_
 refine lQ (ld_blk 4 rfl rfl Tryz.underlying27 rfl rfl rfl) ?_
 refine lS ?_
 refine L_nil ?_
 refine T_ret ?_
 exact T_finM 0 rfl (A1, c1) qN (res1 rfl rfl) [4] ⟨by decide, rfl⟩ rfl
set_option maxHeartbeats 4000000 in
theorem xor_nil_f (key : List (BitVec 8)) (nonce : List (BitVec 8)) (ctr : BitVec 32) (A : Option Addr) (c : Nat) (w : World) (hO : HOK [.rd A 1 0 c []] w) (hk : key.length = 32) (hn : nonce.length = 12) : Calls Tryz.prog 35 [(.agg (key.map b8).toArray), (.agg (nonce.map b8).toArray), (b32 ctr), (.slice A 0 c)].toArray w (Ret (T := Option Addr × Nat) [] w (fun ⟨B, d⟩ => True) (fun ⟨B, d⟩ => (.slice B 0 d)) (fun ⟨B, d⟩ => [.row (.slice B 0 d) 5 1 0 []])) := by
 refine enter_m (c := _) Tryz.func35 rfl [] _ [.rd A 1 0 c []] (by rw [Tryz.ntmps35]; rfl) (own_rds hO rfl) ?_
 rw [Tryz.ntmps35]
 refine lE [(0, (.agg (key.map b8).toArray)), (1, (.agg (nonce.map b8).toArray)), (2, (b32 ctr)), (3, (.slice A 0 c))] ?_
 refine lH [0] [.rd A 1 0 c []] ?_
 refine lT ?_
 refine L_op rfl (op_box (zs := (key.map b8)) rfl rfl rfl rfl rfl (fun g1 => ?_))
 refine L_op rfl (op_box (zs := (nonce.map b8)) rfl rfl rfl rfl rfl (fun g2 => ?_))
 refine L_op rfl (op_box (zs := [(.slice A 0 c)]) rfl rfl rfl rfl rfl (fun g3 => ?_))
 refine lS ?_
 refine L_nil ?_
 refine T_scope rfl ?_
 refine lT ?_
 refine lQ (ld_blk 0 rfl rfl Tryz.underlying27 rfl rfl rfl) ?_
 refine lO (pr_len_sl Tryz.underlying27 rfl rfl) ?_
 refine L_op rfl (op_make (z := (b8 (0#8))) (n := 0) (c := 0) Tryz.underlying27 (bytes := 1) kr rfl sd sd sd rfl rfl rfl rfl rfl (fun g4 => ?_))
 refine T_as 0 _ (.blk g4 5 []) rfl rfl ?_
 refine L_op rfl (op_alloc (z := (.slice none 0 0)) (zs := [(.slice none 0 0)]) kr rfl rfl rfl rfl (fun g5 => ?_))
 refine L_op rfl (op_store (vs := [(.slice (some ⟨g4, 0, none⟩) 0 0)]) (cs' := [(.slice (some ⟨g4, 0, none⟩) 0 0)]) 0 rfl rfl kr (one_one rfl) (by simp) rfl rfl rfl rfl rfl ?_)
 refine L_nil ?_
 refine T_seq ?_
 refine lT ?_
 refine lQ (ld_blk 2 rfl rfl Tryz.underlying27 rfl rfl rfl) ?_
 refine lO (pr_len_sl Tryz.underlying27 rfl rfl) ?_
 refine lO (pr_cmp (bo := .eql) (nc_eq (a := 0) (b := 0)) rfl rfl rfl rfl) ?_
 refine L_nil ?_
 refine T_cond_t rfl ?_
 refine lT ?_
 refine lQ (ld_blk 0 rfl rfl Tryz.underlying27 rfl rfl rfl) ?_
 refine lS ?_
 refine L_nil ?_
 refine T_ret ?_
 refine T_rowb 1 (zs := []) 1 0 0 rfl sd sd rfl (rfl) ?_
 exact T_finM0 (some ⟨g4, 0, none⟩, 0) qN (res1 rfl rfl) [0] ⟨by decide, rfl⟩ rfl
theorem xor_f (key : List (BitVec 8)) (nonce : List (BitVec 8)) (ctr : BitVec 32) (xs : List (BitVec 8)) (A : Option Addr) (n : Nat) (c : Nat) (w : World) (hO : HOK [.rd A 1 n c (xs.map b8)] w) (hk : key.length = 32) (hn : nonce.length = 12) (hx : xs.length = n) (hn9 : n ≤ 100000000) : Calls Tryz.prog 35 [(.agg (key.map b8).toArray), (.agg (nonce.map b8).toArray), (b32 ctr), (.slice A n c)].toArray w (Ret (T := Option Addr × Nat) [] w (fun ⟨B, d⟩ => True) (fun ⟨B, d⟩ => (.slice B n d)) (fun ⟨B, d⟩ => [.row (.slice B n d) 5 1 n ((cxor key nonce ctr xs).map b8)])) := by
  by_cases h : 0 < n
  · exact xor_pos_f key nonce ctr xs A n c w hO hk hn hx hn9 h
  · obtain rfl : n = 0 := by omega
    obtain rfl : xs = [] := List.eq_nil_of_length_eq_zero hx
    have e : cxor key nonce ctr [] = [] := List.eq_nil_of_length_eq_zero (cxor_len key nonce ctr [])
    rw [e]
    exact xor_nil_f key nonce ctr A c w hO hk hn
end Go.Proofs.YtlplpmkdebemnaaGreat
namespace Go.Proofs.YtlplpmkdebemnaaGreat.CtPure
def less (a b : BitVec 64) : BitVec 64 := (~~~a &&& b ||| (~~~a ||| b) &&& a - b) >>> 63
def same (a b : BitVec 64) : BitVec 64 := (a ^^^ b ||| -(a ^^^ b)) >>> 63 ^^^ 1#64
def pick (c a b : BitVec 64) : BitVec 64 := a &&& -(c &&& 1#64) ||| b &&& ~~~(-(c &&& 1#64))
def below (a b : BitVec 64) : BitVec 64 := less (a ^^^ 9223372036854775808#64) (b ^^^ 9223372036854775808#64)
theorem shr63 (x : BitVec 64) : x >>> 63 = if x.msb then 1#64 else 0#64 := by
  apply BitVec.eq_of_toNat_eq
  rw [BitVec.toNat_ushiftRight, Nat.shiftRight_eq_div_pow]
  have := x.isLt
  have hm := BitVec.msb_eq_decide x
  by_cases h : x.msb = true
  · rw [if_pos h]; rw [h] at hm; simp at hm; simp; omega
  · rw [if_neg h]; simp at h; rw [h] at hm; simp at hm; simp; omega
theorem same_eq (a b : BitVec 64) : same a b = if a = b then 1#64 else 0#64 := by
  unfold same
  rw [shr63]
  by_cases h : a = b
  · subst h; simp
  · rw [if_neg h]
    have hx : a ^^^ b ≠ 0#64 := by
      intro e
      exact h (by simpa using BitVec.xor_eq_zero_iff.1 e)
    have hm : (a ^^^ b ||| -(a ^^^ b)).msb = true := by
      generalize a ^^^ b = x at hx
      rw [BitVec.msb_or, BitVec.msb_eq_decide, BitVec.msb_eq_decide, BitVec.toNat_neg]
      have := x.isLt
      have h0 : x.toNat ≠ 0 := fun e => hx (BitVec.eq_of_toNat_eq (by simpa using e))
      simp only [Bool.or_eq_true, decide_eq_true_eq]
      omega
    rw [if_pos hm]; rfl
end Go.Proofs.YtlplpmkdebemnaaGreat.CtPure
