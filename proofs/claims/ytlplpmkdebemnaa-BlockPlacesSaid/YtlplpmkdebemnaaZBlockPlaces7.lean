/- Walks by facts, part 7: what the functions that the law reaches answer. No conditions but lengths. -/
import Derived.Test.YtlplpmkdebemnaaZBlockPlaces6
import Derived.Test.YtlplpmkdebemnaaProg
namespace Go.Proofs.Ytlplpmkdebemnaa
set_option linter.unusedVariables false
set_option linter.unusedSimpArgs false
set_option linter.unnecessarySimpa false
set_option maxRecDepth 100000
open Go.RowKit Bv Fw

theorem c6_nil : catp [] = [] := rfl
theorem c6_cons (p : Pt) (L : List Pt) : catp (p :: L) = p.xs ++ catp L := by simp [catp]
theorem pr_limbs (key : List (BitVec 8)) : (low (clampb key) 8).toNat + 18446744073709551616 * (low (List.take 8 (List.drop 8 (clampb key))) 8).toNat = pr key := by
  have h1 := vw_take16 (clampb key) 16 (by rw [clampb_len]; omega)
  rw [List.take_of_length_le (by rw [clampb_len]; omega)] at h1
  rw [List.take_of_length_le (by rw [List.length_drop, clampb_len]; omega)]
  unfold pr
  rw [h1]
theorem pr_limbs_lt (key : List (BitVec 8)) : (low (clampb key) 8).toNat + 18446744073709551616 * (low (List.take 8 (List.drop 8 (clampb key))) 8).toNat < 21267647932558653966460912964485513216 := by
  rw [pr_limbs]; exact pr_lt key
theorem low_take (xs : List (BitVec 8)) (n : Nat) : ∀ k, k ≤ n → low (xs.take n) k = low xs k
  | 0, _ => rfl
  | k + 1, h => by rw [low, low, low_take xs n k (by omega), ath_take xs n k (by omega)]
theorem ps_limbs (key : List (BitVec 8)) (h : key.length = 32) : v3 (low (List.take 16 (List.drop 16 key)) 8) (low (List.take 8 (List.drop 24 key)) 8) 0#64 = ps key := by
  have h1 := vw_take16 (List.drop 16 key) 16 (by rw [List.length_drop]; omega)
  have h0 : (0#64).toNat = 0 := rfl
  unfold ps
  rw [v3_def, low_take _ _ _ (by omega), low_take _ _ _ (by omega), h0, h1, List.drop_drop, show 16 + 8 = 24 from rfl]
  omega
theorem blk_min (t : List (BitVec 8)) (n k : Nat) (h : t.length = n) : List.take (min 16 (n - 16 * k)) (List.drop (16 * k) t) = pblk t k := by
  unfold pblk
  have hl : (List.drop (16 * k) t).length = n - 16 * k := by rw [List.length_drop, h]
  by_cases h1 : 16 ≤ n - 16 * k
  · rw [Nat.min_eq_left h1]
  · rw [Nat.min_eq_right (by omega), List.take_of_length_le (by omega), List.take_of_length_le (by omega)]
theorem side_c {a0 a1 a2 x y z : BitVec 64} {Y : Nat} (h : v3 a0 a1 a2 < 1573805947009340393518107559371927977984) (hz : v3 x y z = Y ∧ z.toNat ≤ 1) : a2.toNat + z.toNat + 1 < 18446744073709551616 := by
  have h1 := v3_lt_top (B := 5) (Nat.lt_trans h (by decide)); omega
theorem side_e {a0 a1 a2 : BitVec 64} (h : v3 a0 a1 a2 < 2722258935367507707706996859454145691648) : a2.toNat + (0#64).toNat + 1 < 18446744073709551616 := by
  have h1 := v3_lt_top (B := 8) (Nat.lt_of_lt_of_le h (by decide))
  have h0 : (0#64).toNat = 0 := rfl
  omega
theorem side_d {a0 a1 a2 x y z s0 s1 s2 : BitVec 64} {b : List (BitVec 8)} (h : v3 a0 a1 a2 < 1573805947009340393518107559371927977984) (hz : v3 x y z = pv b ∧ z.toNat ≤ 1) (hs : v3 s0 s1 s2 = v3 a0 a1 a2 + v3 x y z) (hb : b.length ≤ 16) : v3 s0 s1 s2 < 2722258935367507707706996859454145691648 := by
  have h1 := pv_lt b hb
  have h2 : (2 : Nat) ^ 129 = 680564733841876926926749214863536422912 := rfl
  rw [h2] at h1
  omega
theorem tag_next {a0 a1 a2 x y z s0 s1 s2 b0 b1 b2 : BitVec 64} {t : List (BitVec 8)} {n k r R : Nat} (ht : t.length = n) (hR : R = r) (hz : v3 x y z = pv (List.take (min 16 (n - 16 * k)) (List.drop (16 * k) t)) ∧ z.toNat ≤ 1) (hs : v3 s0 s1 s2 = v3 a0 a1 a2 + v3 x y z)
    (hb : v3 b0 b1 b2 % polyP = v3 s0 s1 s2 * R % polyP ∧ v3 b0 b1 b2 < 1573805947009340393518107559371927977984) (hp : v3 a0 a1 a2 % polyP = pacc r t k ∧ v3 a0 a1 a2 < 1573805947009340393518107559371927977984) : v3 b0 b1 b2 % polyP = pacc r t (k + 1) ∧ v3 b0 b1 b2 < 1573805947009340393518107559371927977984 := by
  refine ⟨?_, hb.2⟩
  rw [hb.1, hR]
  refine pacc_next r t k (v3 a0 a1 a2) _ hp.1 ?_
  rw [hs, hz.1, blk_min t n k ht]
/-- One look at whether the sum is below the modulus. -/
def Lst (M i : Nat) (a b c : BitVec 64) : Prop := i ≤ 2 ∧ v3 a b c % polyP = M ∧ v3 a b c < 1573805947009340393518107559371927977984 ∧ (1 ≤ i → v3 a b c < polyP)
theorem lst_lt {M i : Nat} {a b c : BitVec 64} (h : Lst M i a b c) : v3 a b c < 2722258935367507707706996859454145691648 := Nat.lt_trans h.2.2.1 (by decide)
theorem lst_hi {M i : Nat} {a b c p q r : BitVec 64} (h : Lst M i a b c) (hi : i < 2) (hs : v3 p q r = v3 a b c + v3 5#64 0#64 0#64) (hc : 4#64 ≤ r) : Lst M (i + 1) p q (r - 4#64) := by
  have h5 : v3 5#64 0#64 0#64 = 5 := by rw [v3_def]; rfl
  rw [h5] at hs
  have hc2 : 4 ≤ r.toNat := BitVec.le_def.1 hc
  have hr : (r - 4#64).toNat = r.toNat - 4 := by
    rw [BitVec.toNat_sub]
    have := r.isLt
    have h4 : (4#64).toNat = 4 := rfl
    rw [h4]; omega
  have e : v3 p q (r - 4#64) + polyP = v3 a b c := by
    rw [v3_def] at hs ⊢
    rw [hr, polyP_eq]
    omega
  obtain ⟨h1, h2, h3, h4⟩ := h
  have e2 : v3 p q (r - 4#64) % polyP = M := by rw [← h2, ← e, Nat.add_mod_right]
  have hP : polyP = 1361129467683753853853498429727072845819 := by rw [polyP_eq]
  refine ⟨by omega, e2, by omega, fun _ => ?_⟩
  rw [hP] at e ⊢
  omega
theorem lst_lo {M i : Nat} {a b c p q r : BitVec 64} (h : Lst M i a b c) (hi : i < 2) (hs : v3 p q r = v3 a b c + v3 5#64 0#64 0#64) (hc : ¬ 4#64 ≤ r) : Lst M (i + 1) a b c := by
  have h5 : v3 5#64 0#64 0#64 = 5 := by rw [v3_def]; rfl
  rw [h5] at hs
  have hc2 : ¬ 4 ≤ r.toNat := fun h => hc (BitVec.le_def.2 h)
  obtain ⟨h1, h2, h3, h4⟩ := h
  refine ⟨by omega, h2, h3, fun _ => ?_⟩
  have hP : polyP = 1361129467683753853853498429727072845819 := by rw [polyP_eq]
  rw [hP]
  rw [v3_def p q r] at hs
  have := p.isLt
  have := q.isLt
  omega
theorem lst_end {M i : Nat} {a b c : BitVec 64} (h : Lst M i a b c) (hi : i = 2) : v3 a b c = M := by
  obtain ⟨h1, h2, h3, h4⟩ := h
  rw [← h2, Nat.mod_eq_of_lt (h4 (by omega))]
theorem lst_zero {M : Nat} {a b c : BitVec 64} (h : v3 a b c % polyP = M ∧ v3 a b c < 1573805947009340393518107559371927977984) : Lst M 0 a b c := ⟨by omega, h.1, h.2, fun h => by omega⟩
theorem tag_fin {f0 f1 f2 e0 e1 e2 x y : BitVec 64} {key t : List (BitVec 8)} {n : Nat} (ht : t.length = n) (hs : v3 f0 f1 f2 = v3 e0 e1 e2 + v3 x y 0#64) (he : v3 e0 e1 e2 = pacc (pr key) t ((n + 16 - 1) / 16)) (hx : v3 x y 0#64 = ps key) : eib [f0, f1] 2 = ptag key t := by
  have e : eib [f0, f1] 2 = lowb f0 8 ++ lowb f1 8 := by rw [eib_succ, eib_succ, eib_zero]; rfl
  have h0 : f0.toNat < 256 ^ 8 := f0.isLt
  rw [e, lowb_dig _ _ (by omega), lowb_dig _ _ (by omega), dig_app 8 8 _ _ h0]
  rw [v3_def, hx, he] at hs
  rw [ptag_def, ht, show (n + 15) / 16 = (n + 16 - 1) / 16 by omega, ← hs, ← dig_mod 8 16 (f0.toNat + 18446744073709551616 * f1.toNat + 340282366920938463463374607431768211456 * f2.toNat) 16 (Nat.le_refl _), ← dig_mod 8 (8 + 8) (f0.toNat + 256 ^ 8 * f1.toNat) 16 (by omega)]
  congr 1
  have p8 : (256 : Nat) ^ 8 = 18446744073709551616 := rfl
  have p16 : (256 : Nat) ^ 16 = 340282366920938463463374607431768211456 := rfl
  rw [p8, p16]
  omega
attribute [irreducible] Lst

set_option maxHeartbeats 4000000 in
theorem ptag_f (key : List (BitVec 8)) (Q : List Pt) (A : Option Addr) (nq : Nat) (c : Nat) (w : World) (hO : HOK [.rd A 1 nq c (Q.map Pt.sl), .all Q] w) (hkl : key.length = 32) (hQ : Q.length = nq) (hm : nq ≤ 100000000) (hs : (catp Q).length ≤ 1000000000) : Calls Try.prog 81 [(.agg (key.map b8).toArray), (.slice A nq c)].toArray w (Ret (T := Unit) [] w (fun _ => True) (fun _ => (.agg ((ptag key (catp Q)).map b8).toArray)) (fun _ => [])) := by
 have hcl := clampb_len key
 have hpl := ptag_len key (catp Q)
 have hel := fun f g => eib_len [f, g] 2
 have hc8 : (List.take 8 (List.drop 8 (clampb key))).length = 8 := by rw [List.length_take, List.length_drop, hcl]; rfl
 have hk8 : (List.take 16 (List.drop 16 key)).length = 16 := by simp; omega
 have hk9 : (List.take 8 (List.drop 24 key)).length = 8 := by simp; omega
 have hF : Wid Fence.wide := wid_wide
 refine enter_m (c := _) Try.func81 rfl [] _ [.rd A 1 nq c (Q.map Pt.sl), .all Q] (by rw [Try.ntmps81]; rfl) (own_rds hO rfl) ?_
 rw [Try.ntmps81]
 refine T_re [(0, (.agg (key.map b8).toArray)), (1, (.slice A nq c))] (sc rfl (sc rfl sn)) ?_
 refine T_he [0, 1] [.rd A 1 nq c (Q.map Pt.sl), .all Q] ⟨by decide, rfl⟩ ?_
 refine Tsr hF rfl ?_
 refine L_op rfl (op_box (zs := (key.map b8)) rfl rfl rfl rfl rfl (fun g1 => ?_))
 refine L_op rfl (op_alloc (z := .agg ((List.replicate 16 0#8).map b8).toArray) (zs := ((List.replicate 16 0#8).map b8)) kr rfl rfl rfl rfl (fun g2 => ?_))
 refine L_nil ?_
 refine Tsr hF rfl ?_
 refine lq rfl (ld_agg (ds := (key.map b8)) 1 rfl agg_all Try.underlying50 rfl (fwz (n := 32) kr sd) rfl rfl) rfl rfl ?_
 refine L_op rfl (op_cn (fun w hw => clamp_f key w (hok_nil w) sd) (enters_of Try.func90 kr rfl) rfl rfl rfl rfl rfl (fun t3 q4 => ?_))
 refine L_op rfl (op_alloc (z := .agg ((List.replicate 16 0#8).map b8).toArray) (zs := ((List.replicate 16 0#8).map b8)) kr rfl rfl rfl rfl (fun g5 => ?_))
 refine L_op rfl (op_sto (n := 16) (vs := ((clampb key).map b8)) 0 rfl rfl kr (all8_one _) kr sd rfl rfl rfl rfl ?_)
 refine L_nil ?_
 refine T_seq ?_
 refine T_regD [.blk g5 113 ((clampb key).map b8), .blk g2 113 ((List.replicate 16 0#8).map b8), .blk g1 50 (key.map b8), .rd A 1 nq c (Q.map Pt.sl), .all Q] 7 7 #[false, false, false, false, false, false, false] hF kr kr ?_
 refine D_pure (i := 0) [0, 1, 2, 3, 4] rfl kr rfl (pr_sla (l := 0) (u := 16) (m := 0) sd sd sd rfl Try.underlying113 (z := 1) kr rfl rfl rfl rfl) (.inr rfl) rfl rfl ?_
 refine D_pure (i := 2) [0, 1, 2, 3, 4] rfl kr rfl (pr_sla (l := 8) (u := 16) (m := 8) sd sd sd rfl Try.underlying113 (z := 1) kr rfl rfl ⟨_, rfl⟩ rfl) (.inr rfl) rfl rfl ?_
 refine D_join (T := Nat) (fun _ => True) (fun g10 => [(1, (.slice A nq c)), (2, (.pointer (some ⟨g1, 0, none⟩))), (4, (.pointer (some ⟨g2, 0, none⟩))), (6, (.pointer (some ⟨g10, 0, none⟩)))]) (fun g10 => [.blk g10 31 [(b64 (low (clampb key) 8)), (b64 (low (List.take 8 (List.drop 8 (clampb key))) 8))], .blk g5 113 ((clampb key).map b8), .blk g2 113 ((List.replicate 16 0#8).map b8), .blk g1 50 (key.map b8), .rd A 1 nq c (Q.map Pt.sl), .all Q]) ?_ ?_
 ·
  refine D_all [1, 5] kr (by simp) ⟨⟨_, rfl, rfl, ?_⟩, ⟨_, rfl, rfl, ?_⟩, trivial⟩
  ·
   refine id (op_cn (fun w hw => low_f (clampb key) 8 (some ⟨g5, 0, none⟩) 16 16 w (hok_cons ((src_full (z := 1) 0 rfl sd sd sd) w hw) (hok_nil w)) sd sd sd) (enters_of Try.func61 kr rfl) rfl rfl rfl rfl rfl (fun t11 q12 => ?_))
   refine D_on [0, 1, 2, 3, 4] rfl ?_
   refine D_all [3, 5] kr (by simp) ⟨⟨_, rfl, rfl, ?_⟩, ⟨_, rfl, rfl, ?_⟩, trivial⟩
   ·
    refine id (op_cn (fun w hw => low_f (List.take 8 (List.drop 8 (clampb key))) 8 (some ⟨g5, 8, none⟩) 8 8 w (hok_cons ((src_sub 0 rfl sd sd sd) w hw) (hok_nil w)) sd sd sd) (enters_of Try.func61 kr rfl) rfl rfl rfl rfl rfl (fun t13 q14 => ?_))
    refine D_on [0, 1, 2, 3, 4] rfl ?_
    refine D_pure (i := 4) [0, 1, 2, 3, 4] rfl kr rfl (pr_build (qs := [(0, (b64 (low (clampb key) 8))), (1, (b64 (low (List.take 8 (List.drop 8 (clampb key))) 8)))]) (v := .agg [(b64 (low (clampb key) 8)), (b64 (low (List.take 8 (List.drop 8 (clampb key))) 8))].toArray) (fun _ => by kernel_rfl) rfl rfl) (.inr rfl) rfl rfl ?_
    refine D_one 5 _ rfl kr rfl (op_alloc (z := .agg [(b64 (0#64)), (b64 (0#64))].toArray) (zs := [(b64 (0#64)), (b64 (0#64))]) kr rfl rfl rfl rfl (fun g15 => ?_))
    refine D_on [1, 2, 3, 4, 5] rfl ?_
    refine D_one 6 _ rfl kr rfl (op_sto (n := 2) (vs := [(b64 (low (clampb key) 8)), (b64 (low (List.take 8 (List.drop 8 (clampb key))) 8))]) 0 rfl rfl kr (by simp [Value.oneCell']) kr kr rfl rfl rfl rfl ?_)
    refine D_on [1, 2, 3, 4, 5] rfl ?_
    refine D_done kr ?_
    exact T_meet g15 trivial (sc rfl (sc rfl (sc rfl (sc rfl sn)))) [0, 1, 2, 3, 4, 5] ⟨by decide, rfl⟩
   ·
    refine id (op_alloc (z := .agg [(b64 (0#64)), (b64 (0#64))].toArray) (zs := [(b64 (0#64)), (b64 (0#64))]) kr rfl rfl rfl rfl (fun g16 => ?_))
    refine D_on [1, 2, 3, 4, 5] rfl ?_
    refine D_one 3 _ rfl kr rfl (op_cn (fun w hw => low_f (List.take 8 (List.drop 8 (clampb key))) 8 (some ⟨g5, 8, none⟩) 8 8 w (hok_cons ((src_sub 1 rfl sd sd sd) w hw) (hok_nil w)) sd sd sd) (enters_of Try.func61 kr rfl) rfl rfl rfl rfl rfl (fun t17 q18 => ?_))
    refine D_on [1, 2, 3, 4, 5] rfl ?_
    refine D_pure (i := 4) [1, 2, 3, 4, 5] rfl kr rfl (pr_build (qs := [(0, (b64 (low (clampb key) 8))), (1, (b64 (low (List.take 8 (List.drop 8 (clampb key))) 8)))]) (v := .agg [(b64 (low (clampb key) 8)), (b64 (low (List.take 8 (List.drop 8 (clampb key))) 8))].toArray) (fun _ => by kernel_rfl) rfl rfl) (.inr rfl) rfl rfl ?_
    refine D_one 6 _ rfl kr rfl (op_sto (n := 2) (vs := [(b64 (low (clampb key) 8)), (b64 (low (List.take 8 (List.drop 8 (clampb key))) 8))]) 0 rfl rfl kr (by simp [Value.oneCell']) kr kr rfl rfl rfl rfl ?_)
    refine D_on [1, 2, 3, 4, 5] rfl ?_
    refine D_done kr ?_
    exact T_meet g16 trivial (sc rfl (sc rfl (sc rfl (sc rfl sn)))) [0, 1, 2, 3, 4, 5] ⟨by decide, rfl⟩
  ·
   refine id (op_alloc (z := .agg [(b64 (0#64)), (b64 (0#64))].toArray) (zs := [(b64 (0#64)), (b64 (0#64))]) kr rfl rfl rfl rfl (fun g19 => ?_))
   refine D_on [1, 2, 3, 4, 5] rfl ?_
   refine D_one 1 _ rfl kr rfl (op_cn (fun w hw => low_f (clampb key) 8 (some ⟨g5, 0, none⟩) 16 16 w (hok_cons ((src_full (z := 1) 1 rfl sd sd sd) w hw) (hok_nil w)) sd sd sd) (enters_of Try.func61 kr rfl) rfl rfl rfl rfl rfl (fun t20 q21 => ?_))
   refine D_on [1, 2, 3, 4, 5] rfl ?_
   refine D_one 3 _ rfl kr rfl (op_cn (fun w hw => low_f (List.take 8 (List.drop 8 (clampb key))) 8 (some ⟨g5, 8, none⟩) 8 8 w (hok_cons ((src_sub 1 rfl sd sd sd) w hw) (hok_nil w)) sd sd sd) (enters_of Try.func61 kr rfl) rfl rfl rfl rfl rfl (fun t22 q23 => ?_))
   refine D_on [1, 2, 3, 4, 5] rfl ?_
   refine D_pure (i := 4) [1, 2, 3, 4, 5] rfl kr rfl (pr_build (qs := [(0, (b64 (low (clampb key) 8))), (1, (b64 (low (List.take 8 (List.drop 8 (clampb key))) 8)))]) (v := .agg [(b64 (low (clampb key) 8)), (b64 (low (List.take 8 (List.drop 8 (clampb key))) 8))].toArray) (fun _ => by kernel_rfl) rfl rfl) (.inr rfl) rfl rfl ?_
   refine D_one 6 _ rfl kr rfl (op_sto (n := 2) (vs := [(b64 (low (clampb key) 8)), (b64 (low (List.take 8 (List.drop 8 (clampb key))) 8))]) 0 rfl rfl kr (by simp [Value.oneCell']) kr kr rfl rfl rfl rfl ?_)
   refine D_on [1, 2, 3, 4, 5] rfl ?_
   refine D_done kr ?_
   exact T_meet g19 trivial (sc rfl (sc rfl (sc rfl (sc rfl sn)))) [0, 1, 2, 3, 4, 5] ⟨by decide, rfl⟩
 ·
  rintro g10 -
  refine T_re [(1, (.slice A nq c)), (2, (.pointer (some ⟨g1, 0, none⟩))), (4, (.pointer (some ⟨g2, 0, none⟩))), (6, (.pointer (some ⟨g10, 0, none⟩)))] (sc rfl (sc rfl (sc rfl (sc rfl sn)))) ?_
  refine T_he [0, 1, 2, 3, 4, 5] [.blk g10 31 [(b64 (low (clampb key) 8)), (b64 (low (List.take 8 (List.drop 8 (clampb key))) 8))], .blk g5 113 ((clampb key).map b8), .blk g2 113 ((List.replicate 16 0#8).map b8), .blk g1 50 (key.map b8), .rd A 1 nq c (Q.map Pt.sl), .all Q] ⟨by decide, rfl⟩ ?_
  refine Tsr hF rfl ?_
  refine L_op rfl (op_alloc (z := .agg [(b64 (0#64)), (b64 (0#64)), (b64 (0#64))].toArray) (zs := [(b64 (0#64)), (b64 (0#64)), (b64 (0#64))]) kr rfl rfl rfl rfl (fun g24 => ?_))
  refine L_nil ?_
  refine T_seq ?_
  refine Tsr hF rfl ?_
  refine lm rfl rfl rfl rfl rfl ?_
  refine L_op rfl (op_cn (fun w hw => concat_f Q A nq c w (hok_cons ((src_rd 5 rfl) w hw) (hok_cons (hw _ (List.mem_of_getElem? (i := 6) rfl)) (hok_nil w))) sd sd sd) (enters_of Try.func91 kr rfl) rfl rfl rfl rfl rfl (fun t25 q26 => ?_))
  obtain ⟨B27, d28⟩ := t25
  refine L_op rfl (op_cn (fun w hw => chunk_f B27 ((catp Q).length) d28 16 w (hok_nil w) sd) (enters_of Try.func44 kr rfl) rfl rfl rfl rfl rfl (fun t29 q30 => ?_))
  obtain ⟨g1_31, g2_32⟩ := t29
  refine L_nil ?_
  refine T_block ?_
  refine T_tord 0 rfl ?_
  refine T_tord 1 rfl ?_
  refine T_old 2 rfl ?_
  refine T_tord 0 rfl ?_
  refine T_range (Θ := Option Addr) (T := BitVec 64 × BitVec 64 × BitVec 64) (Tx := Unit) (cap := [(.pointer (some ⟨g1_31, 0, none⟩)), (.pointer (some ⟨g2_32, 0, none⟩))]) (ps := [20]) (chunk_seq (catp Q) 16 B27 ((catp Q).length) d28 g1_31 g2_32 sd sd sd sd) rfl (enters_of Try.func65 kr rfl) (fun k ⟨a0, a1, a2⟩ => v3 a0 a1 a2 % polyP = pacc (pr key) (catp Q) k ∧ v3 a0 a1 a2 < 1573805947009340393518107559371927977984) (fun k ⟨a0, a1, a2⟩ => [.rd B27 1 ((catp Q).length) d28 ((catp Q).map b8), .rd (some ⟨g2_32, 0, none⟩) 1 1 1 [(.int .i64 ((16 : Nat) : Int))], .rd (some ⟨g1_31, 0, none⟩) 1 1 1 [(.slice B27 ((catp Q).length) d28)], .blk g24 141 [(b64 a0), (b64 a1), (b64 a2)], .blk g10 31 [(b64 (low (clampb key) 8)), (b64 (low (List.take 8 (List.drop 8 (clampb key))) 8))], .blk g5 113 ((clampb key).map b8), .blk g2 113 ((List.replicate 16 0#8).map b8), .blk g1 50 (key.map b8), .rd A 1 nq c (Q.map Pt.sl), .all Q]) (fun _ => False) (fun _ => []) 0 (0#64, 0#64, 0#64) (⟨by rw [v3_def, pacc_zero]; rfl, by rw [v3_def]; decide⟩) [0, 1, 2, 3, 4, 5, 6, 7, 8, 9] ⟨by decide, rfl⟩ [2, 1, 0] rfl rfl (fun _ _ => rfl) (fun _ => rfl) (fun _ _ => rfl) (fun _ _ => rfl) rfl (fun _ => trivial) ?_ ?_ ?_
  ·
   intro C2 w2 lo2 rs2 l D m k t th rc hrec hk hp
   obtain ⟨a0, a1, a2⟩ := t
   obtain ⟨B, rfl⟩ : ∃ x, x = th := ⟨_, rfl⟩
   have hp : v3 a0 a1 a2 % polyP = pacc (pr key) (catp Q) k ∧ v3 a0 a1 a2 < 1573805947009340393518107559371927977984 := hp
   have hk : k < (((catp Q).length) + 16 - 1) / 16 := hk
   have hF : Wid (Fence.wide.inRound l) := wid_round l
   refine T_re [(6, (.pointer (some ⟨g10, 0, none⟩))), (7, (.pointer (some ⟨g24, 0, none⟩))), (20, (.slice B (min 16 (((catp Q).length) - 16 * k)) (min 16 (((catp Q).length) - 16 * k))))] (sc rfl (sc rfl (sc rfl sn))) ?_
   refine T_he [0, 1, 2, 3, 4, 5, 6, 7, 8, 9, 10, 11, 12] [.rd B 1 (min 16 (((catp Q).length) - 16 * k)) (min 16 (((catp Q).length) - 16 * k)) ((List.take (min 16 (((catp Q).length) - 16 * k)) (List.drop (16 * k) (catp Q))).map b8), .obj l (.loop rc), .obj D (.deferred (some [])), .rd B27 1 ((catp Q).length) d28 ((catp Q).map b8), .rd (some ⟨g2_32, 0, none⟩) 1 1 1 [(.int .i64 ((16 : Nat) : Int))], .rd (some ⟨g1_31, 0, none⟩) 1 1 1 [(.slice B27 ((catp Q).length) d28)], .blk g24 141 [(b64 a0), (b64 a1), (b64 a2)], .blk g10 31 [(b64 (low (clampb key) 8)), (b64 (low (List.take 8 (List.drop 8 (clampb key))) 8))], .blk g5 113 ((clampb key).map b8), .blk g2 113 ((List.replicate 16 0#8).map b8), .blk g1 50 (key.map b8), .rd A 1 nq c (Q.map Pt.sl), .all Q] ⟨by decide, rfl⟩ ?_
   refine T_reg hF rfl ?_
   refine la rfl rfl rfl rfl rfl ?_
   refine L_nil ?_
   refine T_begun 1 rfl hrec ?_
   refine T_block ?_
   refine T_regD [.obj l (.loop { rc with state := .busy }), .rd B 1 (min 16 (((catp Q).length) - 16 * k)) (min 16 (((catp Q).length) - 16 * k)) ((List.take (min 16 (((catp Q).length) - 16 * k)) (List.drop (16 * k) (catp Q))).map b8), .obj D (.deferred (some [])), .rd B27 1 ((catp Q).length) d28 ((catp Q).map b8), .rd (some ⟨g2_32, 0, none⟩) 1 1 1 [(.int .i64 ((16 : Nat) : Int))], .rd (some ⟨g1_31, 0, none⟩) 1 1 1 [(.slice B27 ((catp Q).length) d28)], .blk g24 141 [(b64 a0), (b64 a1), (b64 a2)], .blk g10 31 [(b64 (low (clampb key) 8)), (b64 (low (List.take 8 (List.drop 8 (clampb key))) 8))], .blk g5 113 ((clampb key).map b8), .blk g2 113 ((List.replicate 16 0#8).map b8), .blk g1 50 (key.map b8), .rd A 1 nq c (Q.map Pt.sl), .all Q] 9 10 #[false, false, false, false, false, false, false, false, false, false] hF kr kr ?_
   refine D_pure (i := 1) [0, 1, 2, 3, 4, 5, 6, 7, 8, 9, 10, 11, 12] rfl kr rfl (pr_move rfl rfl) (.inr rfl) rfl rfl ?_
   refine D_take (i := 0) [0, 1, 2, 3, 4, 5, 6, 7, 8, 9, 10, 11, 12] rfl kr rfl (ld_agg (ds := [(b64 a0), (b64 a1), (b64 a2)]) 6 rfl agg_all Try.underlying141 rfl kr rfl rfl) rfl rfl rfl ?_
   refine D_take (i := 7) [0, 1, 2, 3, 4, 5, 6, 7, 8, 9, 10, 11, 12] rfl kr rfl (ld_agg (ds := [(b64 (low (clampb key) 8)), (b64 (low (List.take 8 (List.drop 8 (clampb key))) 8))]) 7 rfl agg_all Try.underlying31 rfl kr rfl rfl) rfl rfl rfl ?_
   refine D_one 2 _ rfl kr rfl (op_cn (fun w hw => piece_f (List.take (min 16 (((catp Q).length) - 16 * k)) (List.drop (16 * k) (catp Q))) B (min 16 (((catp Q).length) - 16 * k)) (min 16 (((catp Q).length) - 16 * k)) w (hok_cons ((src_rd 1 rfl) w hw) (hok_nil w)) (by first | assumption | omega | (simp; done) | (simp; omega)) sd) (enters_of Try.func93 kr rfl) rfl rfl rfl rfl rfl (fun t33 q34 => ?_))
   obtain ⟨x35, y36, z37⟩ := t33
   have q34 : v3 x35 y36 z37 = pv (List.take (min 16 (((catp Q).length) - 16 * k)) (List.drop (16 * k) (catp Q))) ∧ z37.toNat ≤ 1 := q34
   refine D_on [0, 1, 2, 3, 4, 5, 6, 7, 8, 9, 10, 11, 12] rfl ?_
   refine D_pure (i := 3) [0, 1, 2, 3, 4, 5, 6, 7, 8, 9, 10, 11, 12] rfl kr rfl (pr_ext (vs := [(b64 x35), (b64 y36), (b64 z37)]) rfl rfl rfl) (.inr rfl) rfl rfl ?_
   refine D_pure (i := 4) [0, 1, 2, 3, 4, 5, 6, 7, 8, 9, 10, 11, 12] rfl kr rfl (pr_ext (vs := [(b64 x35), (b64 y36), (b64 z37)]) rfl rfl rfl) (.inr rfl) rfl rfl ?_
   refine D_pure (i := 5) [0, 1, 2, 3, 4, 5, 6, 7, 8, 9, 10, 11, 12] rfl kr rfl (pr_ext (vs := [(b64 x35), (b64 y36), (b64 z37)]) rfl rfl rfl) (.inr rfl) rfl rfl ?_
   refine D_one 6 _ rfl kr rfl (op_cn (fun w hw => plus_f a0 a1 a2 x35 y36 z37 w (hok_nil w) (side_c hp.2 (by assumption))) (enters_of Try.func92 kr rfl) rfl rfl rfl rfl rfl (fun t38 q39 => ?_))
   obtain ⟨b0_40, b1_41, b2_42⟩ := t38
   have q39 : v3 b0_40 b1_41 b2_42 = v3 a0 a1 a2 + v3 x35 y36 z37 := q39
   refine D_on [0, 1, 2, 3, 4, 5, 6, 7, 8, 9, 10, 11, 12] rfl ?_
   refine D_one 8 _ rfl kr rfl (op_cn (fun w hw => times_f b0_40 b1_41 b2_42 (low (clampb key) 8) (low (List.take 8 (List.drop 8 (clampb key))) 8) w (hok_nil w) (side_d hp.2 (by assumption) (by assumption) (by rw [blk_min _ _ k rfl]; exact pblk_len_le _ _)) (pr_limbs_lt key)) (enters_of Try.func94 kr rfl) rfl rfl rfl rfl rfl (fun t43 q44 => ?_))
   obtain ⟨b0_45, b1_46, b2_47⟩ := t43
   have q44 : v3 b0_45 b1_46 b2_47 % polyP = v3 b0_40 b1_41 b2_42 * ((low (clampb key) 8).toNat + 18446744073709551616 * (low (List.take 8 (List.drop 8 (clampb key))) 8).toNat) % polyP ∧ v3 b0_45 b1_46 b2_47 < 1573805947009340393518107559371927977984 := q44
   refine D_on [0, 1, 2, 3, 4, 5, 6, 7, 8, 9, 10, 11, 12] rfl ?_
   refine D_one 9 _ rfl kr rfl (op_sto (n := 3) (vs := [(b64 b0_45), (b64 b1_46), (b64 b2_47)]) 6 rfl rfl kr (by simp [Value.oneCell']) kr kr rfl rfl rfl rfl ?_)
   refine D_past kr ?_
   refine D_done kr ?_
   exact T_on (b0_45, b1_46, b2_47) (tag_next rfl (pr_limbs key) (by assumption) (by assumption) (by assumption) hp) [1, 3, 4, 5, 6, 0, 7, 8, 9, 10, 11, 12] ⟨by decide, rfl⟩
  ·
   intro D t hp
   obtain ⟨a0, a1, a2⟩ := t
   have hp : v3 a0 a1 a2 % polyP = pacc (pr key) (catp Q) ((((catp Q).length) + 16 - 1) / 16) ∧ v3 a0 a1 a2 < 1573805947009340393518107559371927977984 := hp
   refine T_re [(2, (.pointer (some ⟨g1, 0, none⟩))), (4, (.pointer (some ⟨g2, 0, none⟩))), (7, (.pointer (some ⟨g24, 0, none⟩)))] (sc rfl (sc rfl (sc rfl sn))) ?_
   refine T_he [0, 1, 2, 3, 4, 5, 6, 7, 8, 9, 10] [.obj D (.deferred (some [])), .rd B27 1 ((catp Q).length) d28 ((catp Q).map b8), .rd (some ⟨g2_32, 0, none⟩) 1 1 1 [(.int .i64 ((16 : Nat) : Int))], .rd (some ⟨g1_31, 0, none⟩) 1 1 1 [(.slice B27 ((catp Q).length) d28)], .blk g24 141 [(b64 a0), (b64 a1), (b64 a2)], .blk g10 31 [(b64 (low (clampb key) 8)), (b64 (low (List.take 8 (List.drop 8 (clampb key))) 8))], .blk g5 113 ((clampb key).map b8), .blk g2 113 ((List.replicate 16 0#8).map b8), .blk g1 50 (key.map b8), .rd A 1 nq c (Q.map Pt.sl), .all Q] ⟨by decide, rfl⟩ ?_
   refine T_seq ?_
   refine Tsr hF rfl ?_
   refine lm rfl rfl rfl rfl rfl ?_
   refine L_nil ?_
   refine T_block ?_
   refine T_loop (T := Nat × BitVec 64 × BitVec 64 × BitVec 64) (fun ⟨i, e0, e1, e2⟩ => Lst (pacc (pr key) (catp Q) (((catp Q).length + 16 - 1) / 16)) i e0 e1 e2) (fun ⟨i, e0, e1, e2⟩ => [(2, (.pointer (some ⟨g1, 0, none⟩))), (4, (.pointer (some ⟨g2, 0, none⟩))), (7, (.pointer (some ⟨g24, 0, none⟩))), (30, (.int .i64 ((i : Nat) : Int)))]) (fun ⟨i, e0, e1, e2⟩ => [.obj D (.deferred (some [])), .rd B27 1 ((catp Q).length) d28 ((catp Q).map b8), .rd (some ⟨g2_32, 0, none⟩) 1 1 1 [(.int .i64 ((16 : Nat) : Int))], .rd (some ⟨g1_31, 0, none⟩) 1 1 1 [(.slice B27 ((catp Q).length) d28)], .blk g24 141 [(b64 e0), (b64 e1), (b64 e2)], .blk g10 31 [(b64 (low (clampb key) 8)), (b64 (low (List.take 8 (List.drop 8 (clampb key))) 8))], .blk g5 113 ((clampb key).map b8), .blk g2 113 ((List.replicate 16 0#8).map b8), .blk g1 50 (key.map b8), .rd A 1 nq c (Q.map Pt.sl), .all Q]) (fun ⟨i, e0, e1, e2⟩ => 2 - i) (0, a0, a1, a2) (lst_zero hp) (sc rfl (sc rfl (sc rfl (sc rfl sn)))) [0, 1, 2, 3, 4, 5, 6, 7, 8, 9, 10] ⟨by decide, rfl⟩ ?_
   rintro ⟨i, e0, e1, e2⟩ hp
   have hp : Lst (pacc (pr key) (catp Q) (((catp Q).length + 16 - 1) / 16)) i e0 e1 e2 := hp
   have hi2 : i ≤ 2 := by unfold Lst at hp; exact hp.1
   refine T_re [(2, (.pointer (some ⟨g1, 0, none⟩))), (4, (.pointer (some ⟨g2, 0, none⟩))), (7, (.pointer (some ⟨g24, 0, none⟩))), (30, (.int .i64 ((i : Nat) : Int)))] (sc rfl (sc rfl (sc rfl (sc rfl sn)))) ?_
   refine T_he [0, 1, 2, 3, 4, 5, 6, 7, 8, 9, 10] [.obj D (.deferred (some [])), .rd B27 1 ((catp Q).length) d28 ((catp Q).map b8), .rd (some ⟨g2_32, 0, none⟩) 1 1 1 [(.int .i64 ((16 : Nat) : Int))], .rd (some ⟨g1_31, 0, none⟩) 1 1 1 [(.slice B27 ((catp Q).length) d28)], .blk g24 141 [(b64 e0), (b64 e1), (b64 e2)], .blk g10 31 [(b64 (low (clampb key) 8)), (b64 (low (List.take 8 (List.drop 8 (clampb key))) 8))], .blk g5 113 ((clampb key).map b8), .blk g2 113 ((List.replicate 16 0#8).map b8), .blk g1 50 (key.map b8), .rd A 1 nq c (Q.map Pt.sl), .all Q] ⟨by decide, rfl⟩ ?_
   refine Tsr hF rfl ?_
   refine lo rfl (pr_cmp (bo := .lss) (nc_lt (a := i) (b := 2)) rfl rfl rfl rfl) rfl rfl ?_
   refine L_nil ?_
   refine T_seq ?_
   refine T_cond (decide (i < 2)) rfl (fun hc_48 => ?_) (fun hc_48 => ?_)
   ·
    have hc_48 := of_decide_eq_true hc_48
    refine T_skip ?_
    refine T_seq ?_
    refine T_block ?_
    refine Tsr hF rfl ?_
    refine lq rfl (ld_agg (ds := [(b64 e0), (b64 e1), (b64 e2)]) 4 rfl agg_all Try.underlying141 rfl kr rfl rfl) rfl rfl ?_
    refine L_op rfl (op_cn (fun w hw => plus_f e0 e1 e2 (5#64) (0#64) (0#64) w (hok_nil w) (side_e (lst_lt hp))) (enters_of Try.func92 kr rfl) rfl rfl rfl rfl rfl (fun t49 q50 => ?_))
    obtain ⟨b0_51, b1_52, b2_53⟩ := t49
    have q50 : v3 b0_51 b1_52 b2_53 = v3 e0 e1 e2 + v3 (5#64) (0#64) (0#64) := q50
    refine L_op rfl (op_alloc (z := .agg [(b64 (0#64)), (b64 (0#64)), (b64 (0#64))].toArray) (zs := [(b64 (0#64)), (b64 (0#64)), (b64 (0#64))]) kr rfl rfl rfl rfl (fun g54 => ?_))
    refine L_op rfl (op_sto (n := 3) (vs := [(b64 b0_51), (b64 b1_52), (b64 b2_53)]) 0 rfl rfl kr (by simp [Value.oneCell']) kr kr rfl rfl rfl rfl ?_)
    refine L_nil ?_
    refine Tsr hF rfl ?_
    refine lo rfl (pr_ixa (j := 2) (m' := 2) sd (by omega) Try.underlying141 (z := 1) kr rfl rfl rfl) rfl rfl ?_
    refine lq rfl (ld_blk 0 rfl rfl Try.underlying30 rfl rfl rfl) rfl rfl ?_
    refine lo rfl (pr_cmp (bo := .geq) (cm_le64 (4#64) b2_53) rfl rfl rfl rfl) rfl rfl ?_
    refine L_nil ?_
    refine T_cond (decide (4#64 ≤ b2_53)) rfl (fun hc_55 => ?_) (fun hc_55 => ?_)
    ·
     have hc_55 := of_decide_eq_true hc_55
     refine T_reg hF rfl ?_
     refine lo rfl (pr_ixa (j := 0) (m' := 0) sd (by omega) Try.underlying141 (z := 1) kr rfl rfl rfl) rfl rfl ?_
     refine lq rfl (ld_blk 0 rfl rfl Try.underlying30 rfl rfl rfl) rfl rfl ?_
     refine lo rfl (pr_ixa (j := 1) (m' := 1) sd (by omega) Try.underlying141 (z := 1) kr rfl rfl rfl) rfl rfl ?_
     refine lq rfl (ld_blk 0 rfl rfl Try.underlying30 rfl rfl rfl) rfl rfl ?_
     refine lo rfl (pr_ixa (j := 2) (m' := 2) sd (by omega) Try.underlying141 (z := 1) kr rfl rfl rfl) rfl rfl ?_
     refine lq rfl (ld_blk 0 rfl rfl Try.underlying30 rfl rfl rfl) rfl rfl ?_
     refine lo rfl (pr_sub (sub64 _ (4#64)) rfl rfl rfl) rfl rfl ?_
     refine lo rfl (pr_build (qs := [(0, (b64 b0_51)), (1, (b64 b1_52)), (2, (b64 (b2_53 - 4#64)))]) (v := .agg [(b64 b0_51), (b64 b1_52), (b64 (b2_53 - 4#64))].toArray) (fun _ => by kernel_rfl) rfl rfl) rfl rfl ?_
     refine L_op rfl (op_sto (n := 3) (vs := [(b64 b0_51), (b64 b1_52), (b64 (b2_53 - 4#64))]) 5 rfl rfl kr (by simp [Value.oneCell']) kr kr rfl rfl rfl rfl ?_)
     refine L_nil ?_
     refine T_reg hF rfl ?_
     refine lo rfl (pr_add (na_i64 (a := i) (b := 1) sd) rfl rfl rfl) rfl rfl ?_
     refine lm rfl rfl rfl rfl rfl ?_
     refine L_nil ?_
     exact T_again (i + 1, b0_51, b1_52, (b2_53 - 4#64)) (by first | exact lst_hi hp (by assumption) (by assumption) (by assumption) | exact lst_lo hp (by assumption) (by assumption) (by assumption)) (show 2 - (i + 1) < 2 - i from Nat.sub_lt_sub_left (by assumption) (Nat.lt_succ_self i)) (sc rfl (sc rfl (sc rfl (sc rfl sn)))) [2, 3, 4, 5, 0, 6, 7, 8, 9, 10, 11] ⟨by decide, rfl⟩
    ·
     have hc_55 := of_decide_eq_false hc_55
     refine T_skip ?_
     refine T_reg hF rfl ?_
     refine lo rfl (pr_add (na_i64 (a := i) (b := 1) sd) rfl rfl rfl) rfl rfl ?_
     refine lm rfl rfl rfl rfl rfl ?_
     refine L_nil ?_
     exact T_again (i + 1, e0, e1, e2) (by first | exact lst_hi hp (by assumption) (by assumption) (by assumption) | exact lst_lo hp (by assumption) (by assumption) (by assumption)) (show 2 - (i + 1) < 2 - i from Nat.sub_lt_sub_left (by assumption) (Nat.lt_succ_self i)) (sc rfl (sc rfl (sc rfl (sc rfl sn)))) [1, 2, 3, 4, 5, 6, 7, 8, 9, 10, 11] ⟨by decide, rfl⟩
   ·
    have hc_48 := of_decide_eq_false hc_48
    refine T_exit rfl ?_
    refine T_seq ?_
    refine T_regD [.obj D (.deferred (some [])), .rd B27 1 ((catp Q).length) d28 ((catp Q).map b8), .rd (some ⟨g2_32, 0, none⟩) 1 1 1 [(.int .i64 ((16 : Nat) : Int))], .rd (some ⟨g1_31, 0, none⟩) 1 1 1 [(.slice B27 ((catp Q).length) d28)], .blk g24 141 [(b64 e0), (b64 e1), (b64 e2)], .blk g10 31 [(b64 (low (clampb key) 8)), (b64 (low (List.take 8 (List.drop 8 (clampb key))) 8))], .blk g5 113 ((clampb key).map b8), .blk g2 113 ((List.replicate 16 0#8).map b8), .blk g1 50 (key.map b8), .rd A 1 nq c (Q.map Pt.sl), .all Q] 6 7 #[false, false, false, false, false, false, false] hF kr kr ?_
    refine D_pure (i := 1) [0, 1, 2, 3, 4, 5, 6, 7, 8, 9, 10] rfl kr rfl (pr_sla (l := 16) (u := 32) (m := 16) sd sd sd rfl Try.underlying50 (z := 1) kr rfl rfl ⟨_, rfl⟩ rfl) (.inr rfl) rfl rfl ?_
    refine D_pure (i := 3) [0, 1, 2, 3, 4, 5, 6, 7, 8, 9, 10] rfl kr rfl (pr_sla (l := 24) (u := 32) (m := 24) sd sd sd rfl Try.underlying50 (z := 1) kr rfl rfl ⟨_, rfl⟩ rfl) (.inr rfl) rfl rfl ?_
    refine D_take (i := 0) [0, 1, 2, 3, 4, 5, 6, 7, 8, 9, 10] rfl kr rfl (ld_agg (ds := [(b64 e0), (b64 e1), (b64 e2)]) 4 rfl agg_all Try.underlying141 rfl kr rfl rfl) rfl rfl rfl ?_
    refine D_one 2 _ rfl kr rfl (op_cn (fun w hw => low_f (List.take 16 (List.drop 16 key)) 8 (some ⟨g1, 16, none⟩) 16 16 w (hok_cons ((src_sub 8 rfl sd sd sd) w hw) (hok_nil w)) sd sd sd) (enters_of Try.func61 kr rfl) rfl rfl rfl rfl rfl (fun t56 q57 => ?_))
    refine D_on [0, 1, 2, 3, 4, 5, 6, 7, 8, 9, 10] rfl ?_
    refine D_one 4 _ rfl kr rfl (op_cn (fun w hw => low_f (List.take 8 (List.drop 24 key)) 8 (some ⟨g1, 24, none⟩) 8 8 w (hok_cons ((src_sub 8 rfl sd sd sd) w hw) (hok_nil w)) sd sd sd) (enters_of Try.func61 kr rfl) rfl rfl rfl rfl rfl (fun t58 q59 => ?_))
    refine D_on [0, 1, 2, 3, 4, 5, 6, 7, 8, 9, 10] rfl ?_
    refine D_one 5 _ rfl kr rfl (op_cn (fun w hw => plus_f e0 e1 e2 (low (List.take 16 (List.drop 16 key)) 8) (low (List.take 8 (List.drop 24 key)) 8) (0#64) w (hok_nil w) (side_e (lst_lt hp))) (enters_of Try.func92 kr rfl) rfl rfl rfl rfl rfl (fun t60 q61 => ?_))
    obtain ⟨b0_62, b1_63, b2_64⟩ := t60
    have q61 : v3 b0_62 b1_63 b2_64 = v3 e0 e1 e2 + v3 (low (List.take 16 (List.drop 16 key)) 8) (low (List.take 8 (List.drop 24 key)) 8) (0#64) := q61
    refine D_on [0, 1, 2, 3, 4, 5, 6, 7, 8, 9, 10] rfl ?_
    refine D_one 6 _ rfl kr rfl (op_sto (n := 3) (vs := [(b64 b0_62), (b64 b1_63), (b64 b2_64)]) 4 rfl rfl kr (by simp [Value.oneCell']) kr kr rfl rfl rfl rfl ?_)
    refine D_past kr ?_
    refine D_done kr ?_
    refine Tsr hF rfl ?_
    refine lo rfl (pr_ixa (j := 0) (m' := 0) sd (by omega) Try.underlying141 (z := 1) kr rfl rfl rfl) rfl rfl ?_
    refine lq rfl (ld_blk 0 rfl rfl Try.underlying30 rfl rfl rfl) rfl rfl ?_
    refine lo rfl (pr_ixa (j := 1) (m' := 1) sd (by omega) Try.underlying141 (z := 1) kr rfl rfl rfl) rfl rfl ?_
    refine lq rfl (ld_blk 0 rfl rfl Try.underlying30 rfl rfl rfl) rfl rfl ?_
    refine L_op rfl (op_bslice (e := 30) (zs := [(b64 b0_62), (b64 b1_63)]) (qs := [(0, (b64 b0_62)), (1, (b64 b1_63))]) (fun _ => by kernel_rfl) rfl rfl rfl rfl (fun g65 => ?_))
    refine L_op rfl (op_cn (fun w hw => eights_f [b0_62, b1_63] (some ⟨g65, 0, none⟩) 2 2 w (hok_cons ((src_full (z := 1) 0 rfl rfl sd sd) w hw) (hok_nil w)) (by first | rfl | assumption | omega | (simp; done) | (simp; omega)) sd) (enters_of Try.func77 kr rfl) rfl rfl rfl rfl rfl (fun t66 q67 => ?_))
    obtain ⟨B68, d69⟩ := t66
    refine lo rfl (pr_s2a sd Try.underlying113 rfl rfl) rfl rfl ?_
    refine lq rfl (ld_aggs (ds := ((eib [b0_62, b1_63] 2).map b8)) (src_row 0 rfl) (List.take_length) (by have h1 : (((eib [b0_62, b1_63] 2).map b8)).length = 16 := sd; omega) Try.underlying113 rfl (fwz (n := 16) kr sd) rfl rfl) rfl rfl ?_
    refine L_op rfl (op_sto (n := 16) (vs := ((eib [b0_62, b1_63] 2).map b8)) 9 rfl rfl kr (all8_one _) kr sd rfl rfl rfl rfl ?_)
    refine L_nil ?_
    refine T_ret ?_
    refine T_as 0 _ (.blk g2 113 ((ptag key (catp Q)).map b8)) rfl (by rw [tag_fin rfl (by assumption) (lst_end hp (by omega)) (ps_limbs key hkl)]) ?_
    exact T_finM 4 rfl () (by first | trivial | omega | (simp; done)) (resb 0 rfl rfl rfl Try.underlying113 rfl (fwz (n := 16) kr sd)) [] ⟨by decide, rfl⟩ rfl
  ·
   exact fun D t hq => hq.elim
end Go.Proofs.Ytlplpmkdebemnaa
namespace Go.Proofs.Ytlplpmkdebemnaa
set_option linter.unusedVariables false
set_option linter.unusedSimpArgs false
open Bv Fw
/-- A quarter round: its four numbers. -/
def qa (a b c d : BitVec 32) : BitVec 32 := a + b + rol32 (b ^^^ (c + rol32 (d ^^^ (a + b)) 16)) 12
def qd (a b c d : BitVec 32) : BitVec 32 := rol32 (rol32 (d ^^^ (a + b)) 16 ^^^ qa a b c d) 8
def qc (a b c d : BitVec 32) : BitVec 32 := c + rol32 (d ^^^ (a + b)) 16 + qd a b c d
def qb (a b c d : BitVec 32) : BitVec 32 := rol32 (rol32 (b ^^^ (c + rol32 (d ^^^ (a + b)) 16)) 12 ^^^ qc a b c d) 7
/-- The word of four bytes from a place on. -/
def le32 (xs : List (BitVec 8)) (o : Nat) : BitVec 32 := (low (xs.drop o) 4).setWidth 32
theorem le32_def (xs : List (BitVec 8)) (o : Nat) : (low (xs.drop o) 4).setWidth 32 = le32 xs o := rfl
def cst0 : List (BitVec 32) := [1634760805#32, 857760878#32, 2036477234#32, 1797285236#32, 0#32, 0#32, 0#32, 0#32, 0#32, 0#32, 0#32, 0#32, 0#32, 0#32, 0#32, 0#32]
/-- What a block begins with: behind k words of the key. -/
def cstA (key : List (BitVec 8)) : Nat → List (BitVec 32)
  | 0 => cst0
  | k + 1 => (cstA key k).set (4 + k) (le32 key (4 * k))
/-- .. behind the counter, and k words of the nonce. -/
def cstB (key : List (BitVec 8)) (ctr : BitVec 32) (nonce : List (BitVec 8)) : Nat → List (BitVec 32)
  | 0 => (cstA key 8).set 12 ctr
  | k + 1 => (cstB key ctr nonce k).set (13 + k) (le32 nonce (4 * k))
theorem cstA_len (key : List (BitVec 8)) : ∀ k, (cstA key k).length = 16
  | 0 => rfl
  | k + 1 => by simp [cstA, cstA_len key k]
theorem cstB_len (key : List (BitVec 8)) (ctr : BitVec 32) (nonce : List (BitVec 8)) : ∀ k, (cstB key ctr nonce k).length = 16
  | 0 => by simp [cstB, cstA_len]
  | k + 1 => by simp [cstB, cstB_len key ctr nonce k]
theorem cstA_zero (key : List (BitVec 8)) : cstA key 0 = [1634760805#32, 857760878#32, 2036477234#32, 1797285236#32, 0#32, 0#32, 0#32, 0#32, 0#32, 0#32, 0#32, 0#32, 0#32, 0#32, 0#32, 0#32] := rfl
theorem cstA_succ (key : List (BitVec 8)) (k : Nat) : cstA key (k + 1) = (cstA key k).set (4 + k) (le32 key (4 * k)) := rfl
theorem cstB_zero (key : List (BitVec 8)) (ctr : BitVec 32) (nonce : List (BitVec 8)) : cstB key ctr nonce 0 = (cstA key 8).set 12 ctr := rfl
theorem cstB_succ (key : List (BitVec 8)) (ctr : BitVec 32) (nonce : List (BitVec 8)) (k : Nat) : cstB key ctr nonce (k + 1) = (cstB key ctr nonce k).set (13 + k) (le32 nonce (4 * k)) := rfl
theorem low_tk (xs : List (BitVec 8)) (n : Nat) : ∀ k, k ≤ n → low (xs.take n) k = low xs k
  | 0, _ => rfl
  | k + 1, h => by rw [low, low, low_tk xs n k (by omega), ath_take xs n k (by omega)]
/-- Four bytes, by hand. -/
theorem word4_low (xs : List (BitVec 8)) : (ath xs 0).setWidth 32 ||| (ath xs 1).setWidth 32 <<< 8 ||| (ath xs 2).setWidth 32 <<< 16 ||| (ath xs 3).setWidth 32 <<< 24 = (low xs 4).setWidth 32 := by
  simp only [low, BitVec.setWidth_or, BitVec.setWidth_shiftLeft_of_le (show 32 ≤ 64 by omega), BitVec.setWidth_setWidth_of_le _ (show 32 ≤ 64 by omega), Nat.mul_zero, Nat.mul_one, BitVec.shiftLeft_zero]
  simp
/-- A quarter round at four places. -/
def qr4 (s : List (BitVec 32)) (i j k l : Nat) : List (BitVec 32) :=
  (((s.set i (qa (ath s i) (ath s j) (ath s k) (ath s l))).set j (qb (ath s i) (ath s j) (ath s k) (ath s l))).set k (qc (ath s i) (ath s j) (ath s k) (ath s l))).set l (qd (ath s i) (ath s j) (ath s k) (ath s l))
theorem qr4_def (s : List (BitVec 32)) (i j k l : Nat) : (((s.set i (qa (ath s i) (ath s j) (ath s k) (ath s l))).set j (qb (ath s i) (ath s j) (ath s k) (ath s l))).set k (qc (ath s i) (ath s j) (ath s k) (ath s l))).set l (qd (ath s i) (ath s j) (ath s k) (ath s l)) = qr4 s i j k l := rfl
def colr (s : List (BitVec 32)) : Nat → List (BitVec 32)
  | 0 => s
  | k + 1 => qr4 (colr s k) k (4 + k) (8 + k) (12 + k)
def diar (s : List (BitVec 32)) : Nat → List (BitVec 32)
  | 0 => s
  | k + 1 => qr4 (diar s k) k (4 + (k + 1) % 4) (8 + (k + 2) % 4) (12 + (k + 3) % 4)
def crounds (s : List (BitVec 32)) : Nat → List (BitVec 32)
  | 0 => s
  | k + 1 => diar (colr (crounds s k) 4) 4
theorem qr4_len (s : List (BitVec 32)) (i j k l : Nat) : (qr4 s i j k l).length = s.length := by simp [qr4]
theorem colr_len (s : List (BitVec 32)) : ∀ k, (colr s k).length = s.length
  | 0 => rfl
  | k + 1 => by rw [colr, qr4_len, colr_len s k]
theorem diar_len (s : List (BitVec 32)) : ∀ k, (diar s k).length = s.length
  | 0 => rfl
  | k + 1 => by rw [diar, qr4_len, diar_len s k]
theorem crounds_len (s : List (BitVec 32)) : ∀ k, (crounds s k).length = s.length
  | 0 => rfl
  | k + 1 => by rw [crounds, diar_len, colr_len, crounds_len s k]
theorem colr_zero (s : List (BitVec 32)) : colr s 0 = s := rfl
theorem colr_succ (s : List (BitVec 32)) (k : Nat) : colr s (k + 1) = qr4 (colr s k) k (4 + k) (8 + k) (12 + k) := rfl
theorem diar_zero (s : List (BitVec 32)) : diar s 0 = s := rfl
theorem diar_succ (s : List (BitVec 32)) (k : Nat) : diar s (k + 1) = qr4 (diar s k) k (4 + (k + 1) % 4) (8 + (k + 2) % 4) (12 + (k + 3) % 4) := rfl
theorem crounds_zero (s : List (BitVec 32)) : crounds s 0 = s := rfl
theorem crounds_succ (s : List (BitVec 32)) (k : Nat) : crounds s (k + 1) = diar (colr (crounds s k) 4) 4 := rfl
theorem crounds_hand (s : List (BitVec 32)) (k : Nat) : crounds s (k + 1) =
    qr4 (qr4 (qr4 (qr4 (qr4 (qr4 (qr4 (qr4 (crounds s k) 0 4 8 12) 1 5 9 13) 2 6 10 14) 3 7 11 15) 0 5 10 15) 1 6 11 12) 2 7 8 13) 3 4 9 14 := rfl
/-- The bytes of the first k sums of two lists of words. -/
def outb (x s : List (BitVec 32)) : Nat → List (BitVec 8)
  | 0 => []
  | k + 1 => outb x s k ++ lowb ((ath x k + ath s k).setWidth 64) 4
theorem outb_zero (x s : List (BitVec 32)) : outb x s 0 = [] := rfl
theorem outb_succ (x s : List (BitVec 32)) (k : Nat) : outb x s (k + 1) = outb x s k ++ lowb ((ath x k + ath s k).setWidth 64) 4 := rfl
theorem outb_len (x s : List (BitVec 32)) : ∀ k, (outb x s k).length = 4 * k
  | 0 => rfl
  | k + 1 => by rw [outb, List.length_append, outb_len x s k, lowb_len]; omega
/-- The block. -/
def cblock (key : List (BitVec 8)) (ctr : BitVec 32) (nonce : List (BitVec 8)) : List (BitVec 8) :=
  outb (crounds (cstB key ctr nonce 3) 10) (cstB key ctr nonce 3) 16
theorem cblock_def (key : List (BitVec 8)) (ctr : BitVec 32) (nonce : List (BitVec 8)) : outb (crounds (cstB key ctr nonce 3) 10) (cstB key ctr nonce 3) 16 = cblock key ctr nonce := rfl
theorem cblock_len (key : List (BitVec 8)) (ctr : BitVec 32) (nonce : List (BitVec 8)) : (cblock key ctr nonce).length = 64 := outb_len _ _ 16
/-- The byte of a place. -/
def obyte (x s : List (BitVec 32)) (i : Nat) : BitVec 8 := ((ath x (i / 4) + ath s (i / 4)) >>> (8 * (i % 4))).setWidth 8
def putb (x s : List (BitVec 32)) : Nat → List (BitVec 8)
  | 0 => List.replicate 64 0#8
  | k + 1 => (putb x s k).set k (obyte x s k)
theorem putb_zero (x s : List (BitVec 32)) : putb x s 0 = List.replicate 64 0#8 := rfl
theorem putb_succ (x s : List (BitVec 32)) (k : Nat) : putb x s (k + 1) = (putb x s k).set k (((ath x (k / 4) + ath s (k / 4)) >>> (8 * (k % 4))).setWidth 8) := rfl
theorem putb_len (x s : List (BitVec 32)) : ∀ k, (putb x s k).length = 64
  | 0 => rfl
  | k + 1 => by rw [putb, List.length_set, putb_len x s k]
theorem sw_shr (v : BitVec 32) (n : Nat) : ((v.setWidth 64) >>> n).setWidth 8 = (v >>> n).setWidth 8 := by
  ext i hi
  simp
  intro h
  exact BitVec.lt_of_getLsbD h |> fun _ => by omega
theorem outb_range (x s : List (BitVec 32)) : ∀ k, outb x s k = (List.range (4 * k)).map (obyte x s)
  | 0 => rfl
  | k + 1 => by
    rw [outb, outb_range x s k, show 4 * (k + 1) = 4 * k + 1 + 1 + 1 + 1 by omega]
    simp only [List.range_succ, List.map_append, List.append_assoc]
    congr 1
    simp only [lowb, obyte, sw_shr, List.nil_append, List.cons_append, List.map_cons, List.map_nil]
    rw [show 4 * k / 4 = k by omega, show (4 * k + 1) / 4 = k by omega, show (4 * k + 1 + 1) / 4 = k by omega, show (4 * k + 1 + 1 + 1) / 4 = k by omega,
      show 4 * k % 4 = 0 by omega, show (4 * k + 1) % 4 = 1 by omega, show (4 * k + 1 + 1) % 4 = 2 by omega, show (4 * k + 1 + 1 + 1) % 4 = 3 by omega]
theorem putb_range (x s : List (BitVec 32)) : ∀ k, k ≤ 64 → putb x s k = (List.range k).map (obyte x s) ++ List.replicate (64 - k) 0#8
  | 0, _ => rfl
  | k + 1, h => by
    rw [putb, putb_range x s k (by omega), List.range_succ, List.map_append, show 64 - k = (64 - (k + 1)) + 1 by omega, List.replicate_succ]
    rw [List.set_append_right _ _ (by simp)]
    simp
theorem putb_outb (x s : List (BitVec 32)) : putb x s 64 = outb x s 16 := by
  rw [putb_range x s 64 (Nat.le_refl _), outb_range]; simp
/-- Bytes, each turned by that of its place in the blocks. -/
def xorb (key nonce : List (BitVec 8)) (ctr : BitVec 32) (xs : List (BitVec 8)) : Nat → List (BitVec 8)
  | 0 => []
  | k + 1 => xorb key nonce ctr xs k ++ [ath xs k ^^^ ath (cblock key (ctr + BitVec.ofNat 32 (k / 64)) nonce) (k % 64)]
theorem xorb_zero (key nonce : List (BitVec 8)) (ctr : BitVec 32) (xs : List (BitVec 8)) : xorb key nonce ctr xs 0 = [] := rfl
theorem xorb_succ (key nonce : List (BitVec 8)) (ctr : BitVec 32) (xs : List (BitVec 8)) (k : Nat) : xorb key nonce ctr xs (k + 1) = xorb key nonce ctr xs k ++ [ath xs k ^^^ ath (cblock key (ctr + BitVec.ofNat 32 (k / 64)) nonce) (k % 64)] := rfl
theorem xorb_len (key nonce : List (BitVec 8)) (ctr : BitVec 32) (xs : List (BitVec 8)) : ∀ k, (xorb key nonce ctr xs k).length = k
  | 0 => rfl
  | k + 1 => by rw [xorb, List.length_append, xorb_len key nonce ctr xs k]; rfl
theorem xorb_at (key nonce : List (BitVec 8)) (ctr : BitVec 32) (xs : List (BitVec 8)) : ∀ n j, j < n → ath (xorb key nonce ctr xs n) j = ath xs j ^^^ ath (cblock key (ctr + BitVec.ofNat 32 (j / 64)) nonce) (j % 64)
  | 0, j, h => by omega
  | n + 1, j, h => by
    rw [xorb]
    by_cases hj : j < n
    · rw [ath_app_l _ _ _ (by rw [xorb_len]; exact hj), xorb_at key nonce ctr xs n j hj]
    · obtain rfl : j = n := by omega
      rw [ath_app_r _ _ _ (by rw [xorb_len]; omega), xorb_len, Nat.sub_self]; rfl
/-- Bytes, turned. -/
def cxor (key nonce : List (BitVec 8)) (ctr : BitVec 32) (xs : List (BitVec 8)) : List (BitVec 8) := xorb key nonce ctr xs xs.length
theorem cxor_def (key nonce : List (BitVec 8)) (ctr : BitVec 32) (xs : List (BitVec 8)) (n : Nat) (h : xs.length = n) : xorb key nonce ctr xs n = cxor key nonce ctr xs := by subst h; rfl
theorem cxor_len (key nonce : List (BitVec 8)) (ctr : BitVec 32) (xs : List (BitVec 8)) : (cxor key nonce ctr xs).length = xs.length := xorb_len _ _ _ _ _
theorem cxor_at (key nonce : List (BitVec 8)) (ctr : BitVec 32) (xs : List (BitVec 8)) (j : Nat) (h : j < xs.length) : ath (cxor key nonce ctr xs) j = ath xs j ^^^ ath (cblock key (ctr + BitVec.ofNat 32 (j / 64)) nonce) (j % 64) := xorb_at _ _ _ _ _ _ h
/-- Turned twice. -/
theorem cxor_cxor (key nonce : List (BitVec 8)) (ctr : BitVec 32) (xs : List (BitVec 8)) : cxor key nonce ctr (cxor key nonce ctr xs) = xs := by
  refine ext_ath (by rw [cxor_len, cxor_len]) (fun j hj => ?_)
  rw [cxor_len, cxor_len] at hj
  rw [cxor_at _ _ _ _ _ (by rw [cxor_len]; exact hj), cxor_at _ _ _ _ _ hj, BitVec.xor_assoc, BitVec.xor_self, BitVec.xor_zero]
/-- From a whole block on. -/
theorem cxor_drop (key nonce : List (BitVec 8)) (ctr : BitVec 32) (xs : List (BitVec 8)) (k : Nat) (h : 64 * k ≤ xs.length) : cxor key nonce (ctr + BitVec.ofNat 32 k) (xs.drop (64 * k)) = (cxor key nonce ctr xs).drop (64 * k) := by
  refine ext_ath (by rw [cxor_len, List.length_drop, List.length_drop, cxor_len]) (fun j hj => ?_)
  rw [cxor_len, List.length_drop] at hj
  rw [cxor_at _ _ _ _ _ (by rw [List.length_drop]; exact hj), ath_drop, ath_drop, cxor_at _ _ _ _ _ (by omega), show (64 * k + j) / 64 = k + j / 64 by omega, show (64 * k + j) % 64 = j % 64 by omega, BitVec.add_assoc, ← BitVec.ofNat_add]
attribute [irreducible] qa qb qc qd le32 cstA cstB qr4 colr diar crounds outb cblock putb xorb cxor
end Go.Proofs.Ytlplpmkdebemnaa
namespace Go.Proofs.Ytlplpmkdebemnaa
set_option linter.unusedVariables false
set_option linter.unusedSimpArgs false
set_option linter.unnecessarySimpa false
set_option maxRecDepth 100000
open Go.RowKit Bv Fw

set_option maxHeartbeats 4000000 in
theorem quarter_f (a : BitVec 32) (b : BitVec 32) (c : BitVec 32) (d : BitVec 32) (w : World) (hO : HOK [] w)  : Calls Try.prog 88 [(b32 a), (b32 b), (b32 c), (b32 d)].toArray w (Ret (T := Unit) [] w (fun _ => True) (fun _ => (.tuple [(b32 (qa a b c d)), (b32 (qb a b c d)), (b32 (qc a b c d)), (b32 (qd a b c d))].toArray)) (fun _ => [])) := by
 have hF : Wid Fence.wide := wid_wide
 refine enter (c := _) Try.func88 rfl [] _ [] (by rw [Try.ntmps88]; rfl) (own_rds hO rfl) ?_
 rw [Try.ntmps88]
 refine T_re [(0, (b32 a)), (1, (b32 b)), (2, (b32 c)), (3, (b32 d))] (sc rfl (sc rfl (sc rfl (sc rfl sn)))) ?_
 refine T_he [] [] ⟨by decide, rfl⟩ ?_
 refine Tsr hF rfl ?_
 refine la rfl rfl rfl rfl rfl ?_
 refine la rfl rfl rfl rfl rfl ?_
 refine la rfl rfl rfl rfl rfl ?_
 refine la rfl rfl rfl rfl rfl ?_
 refine L_nil ?_
 refine Tsr hF rfl ?_
 refine lm rfl rfl rfl rfl rfl ?_
 refine lm rfl rfl rfl rfl rfl ?_
 refine lo rfl (pr_add (add32 _ _) rfl rfl rfl) rfl rfl ?_
 refine la rfl rfl rfl rfl rfl ?_
 refine L_nil ?_
 refine Tsr hF rfl ?_
 refine lm rfl rfl rfl rfl rfl ?_
 refine lm rfl rfl rfl rfl rfl ?_
 refine lo rfl (pr_xor (ib_xor32 _ _) rfl rfl rfl) rfl rfl ?_
 refine L_op rfl (op_cn (fun w hw => rotl32_f (d ^^^ (a + b)) ((16 : Nat) : Int) 16 w (hok_nil w) sd (by omega)) (enters_of Try.func98 kr rfl) rfl rfl rfl rfl rfl (fun t1 q2 => ?_))
 refine la rfl rfl rfl rfl rfl ?_
 refine L_nil ?_
 refine Tsr hF rfl ?_
 refine lm rfl rfl rfl rfl rfl ?_
 refine lm rfl rfl rfl rfl rfl ?_
 refine lo rfl (pr_add (add32 _ _) rfl rfl rfl) rfl rfl ?_
 refine la rfl rfl rfl rfl rfl ?_
 refine L_nil ?_
 refine Tsr hF rfl ?_
 refine lm rfl rfl rfl rfl rfl ?_
 refine lm rfl rfl rfl rfl rfl ?_
 refine lo rfl (pr_xor (ib_xor32 _ _) rfl rfl rfl) rfl rfl ?_
 refine L_op rfl (op_cn (fun w hw => rotl32_f (b ^^^ (c + (rol32 (d ^^^ (a + b)) 16))) ((12 : Nat) : Int) 12 w (hok_nil w) sd (by omega)) (enters_of Try.func98 kr rfl) rfl rfl rfl rfl rfl (fun t3 q4 => ?_))
 refine la rfl rfl rfl rfl rfl ?_
 refine L_nil ?_
 refine Tsr hF rfl ?_
 refine lm rfl rfl rfl rfl rfl ?_
 refine lm rfl rfl rfl rfl rfl ?_
 refine lo rfl (pr_add (add32 _ _) rfl rfl rfl) rfl rfl ?_
 refine la rfl rfl rfl rfl rfl ?_
 refine L_nil ?_
 refine Tsr hF rfl ?_
 refine lm rfl rfl rfl rfl rfl ?_
 refine lm rfl rfl rfl rfl rfl ?_
 refine lo rfl (pr_xor (ib_xor32 _ _) rfl rfl rfl) rfl rfl ?_
 refine L_op rfl (op_cn (fun w hw => rotl32_f ((rol32 (d ^^^ (a + b)) 16) ^^^ ((a + b) + (rol32 (b ^^^ (c + (rol32 (d ^^^ (a + b)) 16))) 12))) ((8 : Nat) : Int) 8 w (hok_nil w) sd (by omega)) (enters_of Try.func98 kr rfl) rfl rfl rfl rfl rfl (fun t5 q6 => ?_))
 refine la rfl rfl rfl rfl rfl ?_
 refine L_nil ?_
 refine Tsr hF rfl ?_
 refine lm rfl rfl rfl rfl rfl ?_
 refine lm rfl rfl rfl rfl rfl ?_
 refine lo rfl (pr_add (add32 _ _) rfl rfl rfl) rfl rfl ?_
 refine la rfl rfl rfl rfl rfl ?_
 refine L_nil ?_
 refine Tsr hF rfl ?_
 refine lm rfl rfl rfl rfl rfl ?_
 refine lm rfl rfl rfl rfl rfl ?_
 refine lo rfl (pr_xor (ib_xor32 _ _) rfl rfl rfl) rfl rfl ?_
 refine L_op rfl (op_cn (fun w hw => rotl32_f ((rol32 (b ^^^ (c + (rol32 (d ^^^ (a + b)) 16))) 12) ^^^ ((c + (rol32 (d ^^^ (a + b)) 16)) + (rol32 ((rol32 (d ^^^ (a + b)) 16) ^^^ ((a + b) + (rol32 (b ^^^ (c + (rol32 (d ^^^ (a + b)) 16))) 12))) 8))) ((7 : Nat) : Int) 7 w (hok_nil w) sd (by omega)) (enters_of Try.func98 kr rfl) rfl rfl rfl rfl rfl (fun t7 q8 => ?_))
 refine la rfl rfl rfl rfl rfl ?_
 refine L_nil ?_
 refine Tsr hF rfl ?_
 refine lm rfl rfl rfl rfl rfl ?_
 refine lm rfl rfl rfl rfl rfl ?_
 refine lm rfl rfl rfl rfl rfl ?_
 refine lm rfl rfl rfl rfl rfl ?_
 refine la rfl rfl rfl rfl rfl ?_
 refine la rfl rfl rfl rfl rfl ?_
 refine la rfl rfl rfl rfl rfl ?_
 refine la rfl rfl rfl rfl rfl ?_
 refine L_nil ?_
 refine T_ret ?_
 refine T_slot 8 _ (b32 (qa a b c d)) rfl (by first | rfl | (unfold qb qc qd qa; rfl) | (unfold qc qd qa; rfl) | (unfold qd qa; rfl) | (unfold qa; rfl)) ?_
 refine T_slot 9 _ (b32 (qb a b c d)) rfl (by first | rfl | (unfold qb qc qd qa; rfl) | (unfold qc qd qa; rfl) | (unfold qd qa; rfl) | (unfold qa; rfl)) ?_
 refine T_slot 10 _ (b32 (qc a b c d)) rfl (by first | rfl | (unfold qb qc qd qa; rfl) | (unfold qc qd qa; rfl) | (unfold qd qa; rfl) | (unfold qa; rfl)) ?_
 refine T_slot 11 _ (b32 (qd a b c d)) rfl (by first | rfl | (unfold qb qc qd qa; rfl) | (unfold qc qd qa; rfl) | (unfold qd qa; rfl) | (unfold qa; rfl)) ?_
 exact T_fin () (by first | trivial | omega | (simp; done)) (res4 rfl rfl rfl rfl rfl) [] ⟨by decide, rfl⟩ rfl
theorem ctr_next (ctr : BitVec 32) (k : Nat) : ctr + BitVec.ofNat 32 k + 1#32 = ctr + BitVec.ofNat 32 (k + 1) := by
  rw [BitVec.add_assoc, BitVec.ofNat_add]
theorem ctr_zero (ctr : BitVec 32) : ctr + BitVec.ofNat 32 0 = ctr := by simp
theorem cq16 {s : List (BitVec 32)} {i j k l : Nat} (h : s.length = 16) : (qr4 s i j k l).length = 16 := by rw [qr4_len, h]
theorem cc16 {s : List (BitVec 32)} {k : Nat} (h : s.length = 16) : (colr s k).length = 16 := by rw [colr_len, h]
theorem cd16 {s : List (BitVec 32)} {k : Nat} (h : s.length = 16) : (diar s k).length = 16 := by rw [diar_len, h]

set_option maxHeartbeats 4000000 in
theorem cstate_f (key : List (BitVec 8)) (ctr : BitVec 32) (nonce : List (BitVec 8)) (w : World) (hO : HOK [] w) (hk : key.length = 32) (hn : nonce.length = 12) : Calls Try.prog 87 [(.agg (key.map b8).toArray), (b32 ctr), (.agg (nonce.map b8).toArray)].toArray w (Ret (T := Unit) [] w (fun _ => True) (fun _ => (.agg ((cstB key ctr nonce 3).map b32).toArray)) (fun _ => [])) := by
 have hsa := cstA_len key
 have hsb := cstB_len key ctr nonce
 have hcr := fun k => (crounds_len (cstB key ctr nonce 3) k).trans (hsb 3)
 have hbl := cblock_len key ctr nonce
 have hF : Wid Fence.wide := wid_wide
 refine enter (c := _) Try.func87 rfl [] _ [] (by rw [Try.ntmps87]; rfl) (own_rds hO rfl) ?_
 rw [Try.ntmps87]
 refine T_re [(0, (.agg (key.map b8).toArray)), (1, (b32 ctr)), (2, (.agg (nonce.map b8).toArray))] (sc rfl (sc rfl (sc rfl sn))) ?_
 refine T_he [] [] ⟨by decide, rfl⟩ ?_
 refine Tsr hF rfl ?_
 refine L_op rfl (op_box (zs := (key.map b8)) rfl rfl rfl rfl rfl (fun g1 => ?_))
 refine L_op rfl (op_box (zs := (nonce.map b8)) rfl rfl rfl rfl rfl (fun g2 => ?_))
 refine L_op rfl (op_alloc (z := .agg ((List.replicate 16 0#32).map b32).toArray) (zs := ((List.replicate 16 0#32).map b32)) kr rfl rfl rfl rfl (fun g3 => ?_))
 refine L_nil ?_
 refine Tsr hF rfl ?_
 refine lo rfl (pr_build (qs := [(0, (b32 (1634760805#32))), (1, (b32 (857760878#32))), (2, (b32 (2036477234#32))), (3, (b32 (1797285236#32)))]) (v := .agg ([1634760805#32, 857760878#32, 2036477234#32, 1797285236#32, 0#32, 0#32, 0#32, 0#32, 0#32, 0#32, 0#32, 0#32, 0#32, 0#32, 0#32, 0#32].map b32).toArray) (fun _ => by kernel_rfl) rfl rfl) rfl rfl ?_
 refine L_op rfl (op_alloc (z := .agg ((List.replicate 16 0#32).map b32).toArray) (zs := ((List.replicate 16 0#32).map b32)) kr rfl rfl rfl rfl (fun g4 => ?_))
 refine L_op rfl (op_sto (n := 16) (vs := ([1634760805#32, 857760878#32, 2036477234#32, 1797285236#32, 0#32, 0#32, 0#32, 0#32, 0#32, 0#32, 0#32, 0#32, 0#32, 0#32, 0#32, 0#32].map b32)) 0 rfl rfl kr (all32_one _) kr kr rfl rfl rfl rfl ?_)
 refine L_nil ?_
 refine T_seq ?_
 refine Tsr hF rfl ?_
 refine lm rfl rfl rfl rfl rfl ?_
 refine L_nil ?_
 refine T_block ?_
 refine T_as 0 _ (.blk g4 135 ((cstA key 0).map b32)) rfl (by rw [cstA_zero]) ?_
 refine T_loop (T := Nat) (fun i => i ≤ 8) (fun i => [(1, (b32 ctr)), (3, (.pointer (some ⟨g1, 0, none⟩))), (5, (.pointer (some ⟨g2, 0, none⟩))), (6, (.pointer (some ⟨g3, 0, none⟩))), (7, (.pointer (some ⟨g4, 0, none⟩))), (11, (.int .i64 ((i : Nat) : Int)))]) (fun i => [.blk g4 135 ((cstA key i).map b32), .blk g3 135 ((List.replicate 16 0#32).map b32), .blk g2 86 (nonce.map b8), .blk g1 50 (key.map b8)]) (fun i => 8 - i) 0 (by first | trivial | ((try dsimp only); first | omega | (refine ⟨?_, ?_⟩ <;> omega) | (refine ⟨?_, ?_, ?_⟩ <;> omega) | (simp; done) | (simp; omega))) (sc rfl (sc rfl (sc rfl (sc rfl (sc rfl (sc rfl sn)))))) [0, 1, 2, 3] ⟨by decide, rfl⟩ ?_
 rintro i hp
 have hp : i ≤ 8 := hp
 have hsi := hsa i
 refine T_re [(1, (b32 ctr)), (3, (.pointer (some ⟨g1, 0, none⟩))), (5, (.pointer (some ⟨g2, 0, none⟩))), (6, (.pointer (some ⟨g3, 0, none⟩))), (7, (.pointer (some ⟨g4, 0, none⟩))), (11, (.int .i64 ((i : Nat) : Int)))] (sc rfl (sc rfl (sc rfl (sc rfl (sc rfl (sc rfl sn)))))) ?_
 refine T_he [0, 1, 2, 3] [.blk g4 135 ((cstA key i).map b32), .blk g3 135 ((List.replicate 16 0#32).map b32), .blk g2 86 (nonce.map b8), .blk g1 50 (key.map b8)] ⟨by decide, rfl⟩ ?_
 refine Tsr hF rfl ?_
 refine lo rfl (pr_cmp (bo := .lss) (nc_lt (a := i) (b := 8)) rfl rfl rfl rfl) rfl rfl ?_
 refine L_nil ?_
 refine T_seq ?_
 refine T_cond (decide (i < 8)) rfl (fun hc_5 => ?_) (fun hc_5 => ?_)
 ·
  have hc_5 := of_decide_eq_true hc_5
  refine T_skip ?_
  refine T_seq ?_
  refine T_block ?_
  refine Tsr hF rfl ?_
  refine lm rfl rfl rfl rfl rfl ?_
  refine la rfl rfl rfl rfl rfl ?_
  refine L_nil ?_
  refine T_reg hF rfl ?_
  refine lm rfl rfl rfl rfl rfl ?_
  refine lo rfl (pr_add (na_i64 (a := 4) (b := i) sd) rfl rfl rfl) rfl rfl ?_
  refine lm rfl rfl rfl rfl rfl ?_
  refine lo rfl (pr_mul (nm_i64 (a := 4) (b := i) sd) rfl rfl rfl) rfl rfl ?_
  refine lo rfl (pr_sla (l := 4 * i) (u := 32) (m := 4 * i) sd sd sd (by omega) Try.underlying50 (z := 1) kr rfl rfl ⟨_, rfl⟩ rfl) rfl rfl ?_
  refine L_op rfl (op_cn (fun w hw => low_f (List.take (32 - (4 * i)) (List.drop (4 * i) key)) 4 (some ⟨g1, 4 * i, none⟩) (32 - (4 * i)) (32 - (4 * i)) w (hok_cons ((src_sub 3 rfl sd sd sd) w hw) (hok_nil w)) sd sd sd) (enters_of Try.func61 kr rfl) rfl rfl rfl rfl rfl (fun t6 q7 => ?_))
  refine lo rfl (pr_cv (cv64_32 _) Try.underlying30 Try.underlying112 rfl rfl) rfl rfl ?_
  refine lo rfl (pr_ixa (j := 4 + i) (m' := 4 + i) sd (by omega) Try.underlying135 (z := 1) kr rfl rfl rfl) rfl rfl ?_
  refine L_op rfl (op_store (vs := [(b32 ((low (List.take (32 - (4 * i)) (List.drop (4 * i) key)) 4).setWidth 32))]) (cs' := ((List.set (cstA key i) (4 + i) ((low (List.take (32 - (4 * i)) (List.drop (4 * i) key)) 4).setWidth 32)).map b32)) 0 rfl rfl kr (one_one rfl) (stl sd) (splice_map (f := b32) sd) rfl rfl rfl rfl ?_)
  refine L_nil ?_
  refine T_reg hF rfl ?_
  refine lo rfl (pr_add (na_i64 (a := i) (b := 1) sd) rfl rfl rfl) rfl rfl ?_
  refine lm rfl rfl rfl rfl rfl ?_
  refine L_nil ?_
  refine T_as 0 _ (.blk g4 135 ((cstA key (i + 1)).map b32)) rfl (by rw [cstA_succ, low_tk _ _ 4 (by omega), le32_def]) ?_
  exact T_again (i + 1) (by first | trivial | ((try dsimp only); first | omega | (refine ⟨?_, ?_⟩ <;> omega) | (refine ⟨?_, ?_, ?_⟩ <;> omega) | (simp; done) | (simp; omega))) (by first | trivial | ((try dsimp only); first | omega | (refine ⟨?_, ?_⟩ <;> omega) | (refine ⟨?_, ?_, ?_⟩ <;> omega) | (simp; done) | (simp; omega))) (sc rfl (sc rfl (sc rfl (sc rfl (sc rfl (sc rfl sn)))))) [0, 1, 2, 3] ⟨by decide, rfl⟩
 ·
  have hc_5 := of_decide_eq_false hc_5
  refine T_exit rfl ?_
  obtain rfl : 8 = i := by omega
  refine Tsr hF rfl ?_
  refine lm rfl rfl rfl rfl rfl ?_
  refine lo rfl (pr_ixa (j := 12) (m' := 12) sd (by omega) Try.underlying135 (z := 1) kr rfl rfl rfl) rfl rfl ?_
  refine L_op rfl (op_store (vs := [(b32 ctr)]) (cs' := ((List.set (cstA key 8) 12 ctr).map b32)) 0 rfl rfl kr (one_one rfl) (stl sd) (splice_map (f := b32) sd) rfl rfl rfl rfl ?_)
  refine L_nil ?_
  refine T_seq ?_
  refine Tsr hF rfl ?_
  refine lm rfl rfl rfl rfl rfl ?_
  refine L_nil ?_
  refine T_block ?_
  refine T_as 0 _ (.blk g4 135 ((cstB key ctr nonce 0).map b32)) rfl (by rw [cstB_zero]) ?_
  refine T_loop (T := Nat) (fun i => i ≤ 3) (fun i => [(5, (.pointer (some ⟨g2, 0, none⟩))), (6, (.pointer (some ⟨g3, 0, none⟩))), (7, (.pointer (some ⟨g4, 0, none⟩))), (25, (.int .i64 ((i : Nat) : Int)))]) (fun i => [.blk g4 135 ((cstB key ctr nonce i).map b32), .blk g3 135 ((List.replicate 16 0#32).map b32), .blk g2 86 (nonce.map b8), .blk g1 50 (key.map b8)]) (fun i => 3 - i) 0 (by first | trivial | ((try dsimp only); first | omega | (refine ⟨?_, ?_⟩ <;> omega) | (refine ⟨?_, ?_, ?_⟩ <;> omega) | (simp; done) | (simp; omega))) (sc rfl (sc rfl (sc rfl (sc rfl sn)))) [0, 1, 2, 3] ⟨by decide, rfl⟩ ?_
  rintro i hp
  have hp : i ≤ 3 := hp
  have hsj := hsb i
  refine T_re [(5, (.pointer (some ⟨g2, 0, none⟩))), (6, (.pointer (some ⟨g3, 0, none⟩))), (7, (.pointer (some ⟨g4, 0, none⟩))), (25, (.int .i64 ((i : Nat) : Int)))] (sc rfl (sc rfl (sc rfl (sc rfl sn)))) ?_
  refine T_he [0, 1, 2, 3] [.blk g4 135 ((cstB key ctr nonce i).map b32), .blk g3 135 ((List.replicate 16 0#32).map b32), .blk g2 86 (nonce.map b8), .blk g1 50 (key.map b8)] ⟨by decide, rfl⟩ ?_
  refine Tsr hF rfl ?_
  refine lo rfl (pr_cmp (bo := .lss) (nc_lt (a := i) (b := 3)) rfl rfl rfl rfl) rfl rfl ?_
  refine L_nil ?_
  refine T_seq ?_
  refine T_cond (decide (i < 3)) rfl (fun hc_8 => ?_) (fun hc_8 => ?_)
  ·
   have hc_8 := of_decide_eq_true hc_8
   refine T_skip ?_
   refine T_seq ?_
   refine T_block ?_
   refine Tsr hF rfl ?_
   refine lm rfl rfl rfl rfl rfl ?_
   refine la rfl rfl rfl rfl rfl ?_
   refine L_nil ?_
   refine T_reg hF rfl ?_
   refine lm rfl rfl rfl rfl rfl ?_
   refine lo rfl (pr_add (na_i64 (a := 13) (b := i) sd) rfl rfl rfl) rfl rfl ?_
   refine lm rfl rfl rfl rfl rfl ?_
   refine lo rfl (pr_mul (nm_i64 (a := 4) (b := i) sd) rfl rfl rfl) rfl rfl ?_
   refine lo rfl (pr_sla (l := 4 * i) (u := 12) (m := 4 * i) sd sd sd (by omega) Try.underlying86 (z := 1) kr rfl rfl ⟨_, rfl⟩ rfl) rfl rfl ?_
   refine L_op rfl (op_cn (fun w hw => low_f (List.take (12 - (4 * i)) (List.drop (4 * i) nonce)) 4 (some ⟨g2, 4 * i, none⟩) (12 - (4 * i)) (12 - (4 * i)) w (hok_cons ((src_sub 2 rfl sd sd sd) w hw) (hok_nil w)) sd sd sd) (enters_of Try.func61 kr rfl) rfl rfl rfl rfl rfl (fun t9 q10 => ?_))
   refine lo rfl (pr_cv (cv64_32 _) Try.underlying30 Try.underlying112 rfl rfl) rfl rfl ?_
   refine lo rfl (pr_ixa (j := 13 + i) (m' := 13 + i) sd (by omega) Try.underlying135 (z := 1) kr rfl rfl rfl) rfl rfl ?_
   refine L_op rfl (op_store (vs := [(b32 ((low (List.take (12 - (4 * i)) (List.drop (4 * i) nonce)) 4).setWidth 32))]) (cs' := ((List.set (cstB key ctr nonce i) (13 + i) ((low (List.take (12 - (4 * i)) (List.drop (4 * i) nonce)) 4).setWidth 32)).map b32)) 0 rfl rfl kr (one_one rfl) (stl sd) (splice_map (f := b32) sd) rfl rfl rfl rfl ?_)
   refine L_nil ?_
   refine T_reg hF rfl ?_
   refine lo rfl (pr_add (na_i64 (a := i) (b := 1) sd) rfl rfl rfl) rfl rfl ?_
   refine lm rfl rfl rfl rfl rfl ?_
   refine L_nil ?_
   refine T_as 0 _ (.blk g4 135 ((cstB key ctr nonce (i + 1)).map b32)) rfl (by rw [cstB_succ, low_tk _ _ 4 (by omega), le32_def]) ?_
   exact T_again (i + 1) (by first | trivial | ((try dsimp only); first | omega | (refine ⟨?_, ?_⟩ <;> omega) | (refine ⟨?_, ?_, ?_⟩ <;> omega) | (simp; done) | (simp; omega))) (by first | trivial | ((try dsimp only); first | omega | (refine ⟨?_, ?_⟩ <;> omega) | (refine ⟨?_, ?_, ?_⟩ <;> omega) | (simp; done) | (simp; omega))) (sc rfl (sc rfl (sc rfl (sc rfl sn)))) [0, 1, 2, 3] ⟨by decide, rfl⟩
  ·
   have hc_8 := of_decide_eq_false hc_8
   refine T_exit rfl ?_
   obtain rfl : 3 = i := by omega
   refine Tsr hF rfl ?_
   refine lq rfl (ld_agg (ds := ((cstB key ctr nonce 3).map b32)) 0 rfl agg_all Try.underlying135 rfl (fwz (n := 16) kr sd) rfl rfl) rfl rfl ?_
   refine L_op rfl (op_sto (n := 16) (vs := ((cstB key ctr nonce 3).map b32)) 1 rfl rfl kr (all32_one _) kr sd rfl rfl rfl rfl ?_)
   refine L_nil ?_
   refine T_ret ?_
   exact T_fin () (by first | trivial | omega | (simp; done)) (resb 0 rfl rfl rfl Try.underlying135 rfl (fwz (n := 16) kr sd)) [] ⟨by decide, rfl⟩ rfl
set_option maxRecDepth 100000 in
set_option maxHeartbeats 4000000 in
theorem cblock_f (key : List (BitVec 8)) (ctr : BitVec 32) (nonce : List (BitVec 8)) (w : World) (hO : HOK [] w) (hk : key.length = 32) (hn : nonce.length = 12) : Calls Try.prog 79 [(.agg (key.map b8).toArray), (b32 ctr), (.agg (nonce.map b8).toArray)].toArray w (Ret (T := Unit) [] w (fun _ => True) (fun _ => (.agg ((cblock key ctr nonce).map b8).toArray)) (fun _ => [])) := by
 have hsa := cstA_len key
 have hsb := cstB_len key ctr nonce
 have hcr := fun k => (crounds_len (cstB key ctr nonce 3) k).trans (hsb 3)
 have hbl := cblock_len key ctr nonce
 have hol := outb_len (crounds (cstB key ctr nonce 3) 10) (cstB key ctr nonce 3)
 have hF : Wid Fence.wide := wid_wide
 refine enter (c := _) Try.func79 rfl [] _ [] (by rw [Try.ntmps79]; rfl) (own_rds hO rfl) ?_
 rw [Try.ntmps79]
 refine T_re [(0, (.agg (key.map b8).toArray)), (1, (b32 ctr)), (2, (.agg (nonce.map b8).toArray))] (sc rfl (sc rfl (sc rfl sn))) ?_
 refine T_he [] [] ⟨by decide, rfl⟩ ?_
 refine Tsr hF rfl ?_
 refine L_op rfl (op_box (zs := (key.map b8)) rfl rfl rfl rfl rfl (fun g1 => ?_))
 refine L_op rfl (op_box (zs := (nonce.map b8)) rfl rfl rfl rfl rfl (fun g2 => ?_))
 refine L_op rfl (op_alloc (z := .agg ((List.replicate 64 0#8).map b8).toArray) (zs := ((List.replicate 64 0#8).map b8)) kr rfl rfl rfl rfl (fun g3 => ?_))
 refine L_nil ?_
 refine Tsr hF rfl ?_
 refine lq rfl (ld_agg (ds := (key.map b8)) 2 rfl agg_all Try.underlying50 rfl (fwz (n := 32) kr sd) rfl rfl) rfl rfl ?_
 refine lm rfl rfl rfl rfl rfl ?_
 refine lq rfl (ld_agg (ds := (nonce.map b8)) 1 rfl agg_all Try.underlying86 rfl (fwz (n := 12) kr sd) rfl rfl) rfl rfl ?_
 refine L_op rfl (op_cn (fun w hw => cstate_f key ctr nonce w (hok_nil w) (by first | assumption | exact sd) (by first | assumption | exact sd)) (enters_of Try.func87 kr rfl) rfl rfl rfl rfl rfl (fun t4 q5 => ?_))
 refine L_op rfl (op_alloc (z := .agg ((List.replicate 16 0#32).map b32).toArray) (zs := ((List.replicate 16 0#32).map b32)) kr rfl rfl rfl rfl (fun g6 => ?_))
 refine L_op rfl (op_sto (n := 16) (vs := ((cstB key ctr nonce 3).map b32)) 0 rfl rfl kr (all32_one _) kr sd rfl rfl rfl rfl ?_)
 refine L_nil ?_
 refine Tsr hF rfl ?_
 refine lq rfl (ld_agg (ds := ((cstB key ctr nonce 3).map b32)) 0 rfl agg_all Try.underlying135 rfl (fwz (n := 16) kr sd) rfl rfl) rfl rfl ?_
 refine L_op rfl (op_alloc (z := .agg ((List.replicate 16 0#32).map b32).toArray) (zs := ((List.replicate 16 0#32).map b32)) kr rfl rfl rfl rfl (fun g7 => ?_))
 refine L_op rfl (op_sto (n := 16) (vs := ((cstB key ctr nonce 3).map b32)) 0 rfl rfl kr (all32_one _) kr sd rfl rfl rfl rfl ?_)
 refine L_nil ?_
 refine T_seq ?_
 refine Tsr hF rfl ?_
 refine lm rfl rfl rfl rfl rfl ?_
 refine L_nil ?_
 refine T_block ?_
 refine T_as 0 _ (.blk g7 135 ((crounds (cstB key ctr nonce 3) 0).map b32)) rfl (by rw [crounds_zero]) ?_
 refine T_loop (T := Nat) (fun k => k ≤ 10) (fun k => [(6, (.pointer (some ⟨g3, 0, none⟩))), (7, (.pointer (some ⟨g6, 0, none⟩))), (8, (.pointer (some ⟨g7, 0, none⟩))), (21, (.int .i64 ((k : Nat) : Int)))]) (fun k => [.blk g7 135 ((crounds (cstB key ctr nonce 3) k).map b32), .blk g6 135 ((cstB key ctr nonce 3).map b32), .blk g3 125 ((List.replicate 64 0#8).map b8), .blk g2 86 (nonce.map b8), .blk g1 50 (key.map b8)]) (fun k => 10 - k) 0 (by first | trivial | ((try dsimp only); first | omega | (refine ⟨?_, ?_⟩ <;> omega) | (refine ⟨?_, ?_, ?_⟩ <;> omega) | (simp; done) | (simp; omega))) (sc rfl (sc rfl (sc rfl (sc rfl sn)))) [0, 1, 2, 3, 4] ⟨by decide, rfl⟩ ?_
 rintro k hp
 have hp : k ≤ 10 := hp
 have hck := hcr k
 refine T_re [(6, (.pointer (some ⟨g3, 0, none⟩))), (7, (.pointer (some ⟨g6, 0, none⟩))), (8, (.pointer (some ⟨g7, 0, none⟩))), (21, (.int .i64 ((k : Nat) : Int)))] (sc rfl (sc rfl (sc rfl (sc rfl sn)))) ?_
 refine T_he [0, 1, 2, 3, 4] [.blk g7 135 ((crounds (cstB key ctr nonce 3) k).map b32), .blk g6 135 ((cstB key ctr nonce 3).map b32), .blk g3 125 ((List.replicate 64 0#8).map b8), .blk g2 86 (nonce.map b8), .blk g1 50 (key.map b8)] ⟨by decide, rfl⟩ ?_
 refine Tsr hF rfl ?_
 refine lo rfl (pr_cmp (bo := .lss) (nc_lt (a := k) (b := 10)) rfl rfl rfl rfl) rfl rfl ?_
 refine L_nil ?_
 refine T_seq ?_
 refine T_cond (decide (k < 10)) rfl (fun hc_8 => ?_) (fun hc_8 => ?_)
 ·
  have hc_8 := of_decide_eq_true hc_8
  refine T_skip ?_
  refine T_seq ?_
  refine T_block ?_
  refine T_seq ?_
  refine Tsr hF rfl ?_
  refine lm rfl rfl rfl rfl rfl ?_
  refine L_nil ?_
  refine T_block ?_
  refine T_as 0 _ (.blk g7 135 ((colr (crounds (cstB key ctr nonce 3) k) 0).map b32)) rfl (by rw [colr_zero]) ?_
  refine T_loop (T := Nat) (fun i => i ≤ 4) (fun i => [(6, (.pointer (some ⟨g3, 0, none⟩))), (7, (.pointer (some ⟨g6, 0, none⟩))), (8, (.pointer (some ⟨g7, 0, none⟩))), (21, (.int .i64 ((k : Nat) : Int))), (23, (.int .i64 ((i : Nat) : Int)))]) (fun i => [.blk g7 135 ((colr (crounds (cstB key ctr nonce 3) k) i).map b32), .blk g6 135 ((cstB key ctr nonce 3).map b32), .blk g3 125 ((List.replicate 64 0#8).map b8), .blk g2 86 (nonce.map b8), .blk g1 50 (key.map b8)]) (fun i => 4 - i) 0 (by first | trivial | ((try dsimp only); first | omega | (refine ⟨?_, ?_⟩ <;> omega) | (refine ⟨?_, ?_, ?_⟩ <;> omega) | (simp; done) | (simp; omega))) (sc rfl (sc rfl (sc rfl (sc rfl (sc rfl sn))))) [0, 1, 2, 3, 4] ⟨by decide, rfl⟩ ?_
  rintro i hp
  have hp : i ≤ 4 := hp
  have hci := cc16 (k := i) hck
  refine T_re [(6, (.pointer (some ⟨g3, 0, none⟩))), (7, (.pointer (some ⟨g6, 0, none⟩))), (8, (.pointer (some ⟨g7, 0, none⟩))), (21, (.int .i64 ((k : Nat) : Int))), (23, (.int .i64 ((i : Nat) : Int)))] (sc rfl (sc rfl (sc rfl (sc rfl (sc rfl sn))))) ?_
  refine T_he [0, 1, 2, 3, 4] [.blk g7 135 ((colr (crounds (cstB key ctr nonce 3) k) i).map b32), .blk g6 135 ((cstB key ctr nonce 3).map b32), .blk g3 125 ((List.replicate 64 0#8).map b8), .blk g2 86 (nonce.map b8), .blk g1 50 (key.map b8)] ⟨by decide, rfl⟩ ?_
  refine Tsr hF rfl ?_
  refine lo rfl (pr_cmp (bo := .lss) (nc_lt (a := i) (b := 4)) rfl rfl rfl rfl) rfl rfl ?_
  refine L_nil ?_
  refine T_seq ?_
  refine T_cond (decide (i < 4)) rfl (fun hc_9 => ?_) (fun hc_9 => ?_)
  ·
   have hc_9 := of_decide_eq_true hc_9
   refine T_skip ?_
   refine T_seq ?_
   refine T_block ?_
   refine Tsr hF rfl ?_
   refine lm rfl rfl rfl rfl rfl ?_
   refine la rfl rfl rfl rfl rfl ?_
   refine L_nil ?_
   refine T_regD [.blk g7 135 ((colr (crounds (cstB key ctr nonce 3) k) i).map b32), .blk g6 135 ((cstB key ctr nonce 3).map b32), .blk g3 125 ((List.replicate 64 0#8).map b8), .blk g2 86 (nonce.map b8), .blk g1 50 (key.map b8)] 29 36 #[false, false, false, false, false, false, false, false, false, false, false, false, false, false, false, false, false, false, false, false, false, false, false, false, false, false, false, false, false, false, false, false, false, false, false, false] hF kr kr ?_
   refine D_pure (i := 0) [0, 1, 2, 3, 4] rfl kr rfl (pr_move rfl rfl) (.inr rfl) rfl rfl ?_
   refine D_pure (i := 1) [0, 1, 2, 3, 4] rfl kr rfl (pr_move rfl rfl) (.inr rfl) rfl rfl ?_
   refine D_pure (i := 2) [0, 1, 2, 3, 4] rfl kr rfl (pr_add (na_i64 (a := 4) (b := i) sd) rfl rfl rfl) (.inr rfl) rfl rfl ?_
   refine D_pure (i := 3) [0, 1, 2, 3, 4] rfl kr rfl (pr_move rfl rfl) (.inr rfl) rfl rfl ?_
   refine D_pure (i := 4) [0, 1, 2, 3, 4] rfl kr rfl (pr_add (na_i64 (a := 8) (b := i) sd) rfl rfl rfl) (.inr rfl) rfl rfl ?_
   refine D_pure (i := 5) [0, 1, 2, 3, 4] rfl kr rfl (pr_move rfl rfl) (.inr rfl) rfl rfl ?_
   refine D_pure (i := 6) [0, 1, 2, 3, 4] rfl kr rfl (pr_add (na_i64 (a := 12) (b := i) sd) rfl rfl rfl) (.inr rfl) rfl rfl ?_
   refine D_pure (i := 7) [0, 1, 2, 3, 4] rfl kr rfl (pr_move rfl rfl) (.inr rfl) rfl rfl ?_
   refine D_pure (i := 8) [0, 1, 2, 3, 4] rfl kr rfl (pr_ixa (j := i) (m' := i) sd (by omega) Try.underlying135 (z := 1) kr rfl rfl rfl) (.inr rfl) rfl rfl ?_
   refine D_pure (i := 10) [0, 1, 2, 3, 4] rfl kr rfl (pr_move rfl rfl) (.inr rfl) rfl rfl ?_
   refine D_pure (i := 11) [0, 1, 2, 3, 4] rfl kr rfl (pr_add (na_i64 (a := 4) (b := i) sd) rfl rfl rfl) (.inr rfl) rfl rfl ?_
   refine D_pure (i := 12) [0, 1, 2, 3, 4] rfl kr rfl (pr_ixa (j := 4 + i) (m' := 4 + i) sd (by omega) Try.underlying135 (z := 1) kr rfl rfl rfl) (.inr rfl) rfl rfl ?_
   refine D_pure (i := 14) [0, 1, 2, 3, 4] rfl kr rfl (pr_move rfl rfl) (.inr rfl) rfl rfl ?_
   refine D_pure (i := 15) [0, 1, 2, 3, 4] rfl kr rfl (pr_add (na_i64 (a := 8) (b := i) sd) rfl rfl rfl) (.inr rfl) rfl rfl ?_
   refine D_pure (i := 16) [0, 1, 2, 3, 4] rfl kr rfl (pr_ixa (j := 8 + i) (m' := 8 + i) sd (by omega) Try.underlying135 (z := 1) kr rfl rfl rfl) (.inr rfl) rfl rfl ?_
   refine D_pure (i := 18) [0, 1, 2, 3, 4] rfl kr rfl (pr_move rfl rfl) (.inr rfl) rfl rfl ?_
   refine D_pure (i := 19) [0, 1, 2, 3, 4] rfl kr rfl (pr_add (na_i64 (a := 12) (b := i) sd) rfl rfl rfl) (.inr rfl) rfl rfl ?_
   refine D_pure (i := 20) [0, 1, 2, 3, 4] rfl kr rfl (pr_ixa (j := 12 + i) (m' := 12 + i) sd (by omega) Try.underlying135 (z := 1) kr rfl rfl rfl) (.inr rfl) rfl rfl ?_
   refine D_take (i := 9) [0, 1, 2, 3, 4] rfl kr rfl (ld_blk 0 rfl (get32 sd) Try.underlying112 rfl rfl rfl) rfl rfl rfl ?_
   refine D_take (i := 13) [0, 1, 2, 3, 4] rfl kr rfl (ld_blk 0 rfl (get32 sd) Try.underlying112 rfl rfl rfl) rfl rfl rfl ?_
   refine D_take (i := 17) [0, 1, 2, 3, 4] rfl kr rfl (ld_blk 0 rfl (get32 sd) Try.underlying112 rfl rfl rfl) rfl rfl rfl ?_
   refine D_take (i := 21) [0, 1, 2, 3, 4] rfl kr rfl (ld_blk 0 rfl (get32 sd) Try.underlying112 rfl rfl rfl) rfl rfl rfl ?_
   refine D_one 22 _ rfl kr rfl (op_cn (fun w hw => quarter_f (ath (colr (crounds (cstB key ctr nonce 3) k) i) i) (ath (colr (crounds (cstB key ctr nonce 3) k) i) (4 + i)) (ath (colr (crounds (cstB key ctr nonce 3) k) i) (8 + i)) (ath (colr (crounds (cstB key ctr nonce 3) k) i) (12 + i)) w (hok_nil w) ) (enters_of Try.func88 kr rfl) rfl rfl rfl rfl rfl (fun t10 q11 => ?_))
   refine D_on [0, 1, 2, 3, 4] rfl ?_
   refine D_pure (i := 23) [0, 1, 2, 3, 4] rfl kr rfl (pr_move rfl rfl) (.inr rfl) rfl rfl ?_
   refine D_pure (i := 24) [0, 1, 2, 3, 4] rfl kr rfl (pr_ext (vs := [(b32 (qa (ath (colr (crounds (cstB key ctr nonce 3) k) i) i) (ath (colr (crounds (cstB key ctr nonce 3) k) i) (4 + i)) (ath (colr (crounds (cstB key ctr nonce 3) k) i) (8 + i)) (ath (colr (crounds (cstB key ctr nonce 3) k) i) (12 + i)))), (b32 (qb (ath (colr (crounds (cstB key ctr nonce 3) k) i) i) (ath (colr (crounds (cstB key ctr nonce 3) k) i) (4 + i)) (ath (colr (crounds (cstB key ctr nonce 3) k) i) (8 + i)) (ath (colr (crounds (cstB key ctr nonce 3) k) i) (12 + i)))), (b32 (qc (ath (colr (crounds (cstB key ctr nonce 3) k) i) i) (ath (colr (crounds (cstB key ctr nonce 3) k) i) (4 + i)) (ath (colr (crounds (cstB key ctr nonce 3) k) i) (8 + i)) (ath (colr (crounds (cstB key ctr nonce 3) k) i) (12 + i)))), (b32 (qd (ath (colr (crounds (cstB key ctr nonce 3) k) i) i) (ath (colr (crounds (cstB key ctr nonce 3) k) i) (4 + i)) (ath (colr (crounds (cstB key ctr nonce 3) k) i) (8 + i)) (ath (colr (crounds (cstB key ctr nonce 3) k) i) (12 + i))))]) rfl rfl rfl) (.inr rfl) rfl rfl ?_
   refine D_pure (i := 25) [0, 1, 2, 3, 4] rfl kr rfl (pr_ext (vs := [(b32 (qa (ath (colr (crounds (cstB key ctr nonce 3) k) i) i) (ath (colr (crounds (cstB key ctr nonce 3) k) i) (4 + i)) (ath (colr (crounds (cstB key ctr nonce 3) k) i) (8 + i)) (ath (colr (crounds (cstB key ctr nonce 3) k) i) (12 + i)))), (b32 (qb (ath (colr (crounds (cstB key ctr nonce 3) k) i) i) (ath (colr (crounds (cstB key ctr nonce 3) k) i) (4 + i)) (ath (colr (crounds (cstB key ctr nonce 3) k) i) (8 + i)) (ath (colr (crounds (cstB key ctr nonce 3) k) i) (12 + i)))), (b32 (qc (ath (colr (crounds (cstB key ctr nonce 3) k) i) i) (ath (colr (crounds (cstB key ctr nonce 3) k) i) (4 + i)) (ath (colr (crounds (cstB key ctr nonce 3) k) i) (8 + i)) (ath (colr (crounds (cstB key ctr nonce 3) k) i) (12 + i)))), (b32 (qd (ath (colr (crounds (cstB key ctr nonce 3) k) i) i) (ath (colr (crounds (cstB key ctr nonce 3) k) i) (4 + i)) (ath (colr (crounds (cstB key ctr nonce 3) k) i) (8 + i)) (ath (colr (crounds (cstB key ctr nonce 3) k) i) (12 + i))))]) rfl rfl rfl) (.inr rfl) rfl rfl ?_
   refine D_pure (i := 26) [0, 1, 2, 3, 4] rfl kr rfl (pr_ext (vs := [(b32 (qa (ath (colr (crounds (cstB key ctr nonce 3) k) i) i) (ath (colr (crounds (cstB key ctr nonce 3) k) i) (4 + i)) (ath (colr (crounds (cstB key ctr nonce 3) k) i) (8 + i)) (ath (colr (crounds (cstB key ctr nonce 3) k) i) (12 + i)))), (b32 (qb (ath (colr (crounds (cstB key ctr nonce 3) k) i) i) (ath (colr (crounds (cstB key ctr nonce 3) k) i) (4 + i)) (ath (colr (crounds (cstB key ctr nonce 3) k) i) (8 + i)) (ath (colr (crounds (cstB key ctr nonce 3) k) i) (12 + i)))), (b32 (qc (ath (colr (crounds (cstB key ctr nonce 3) k) i) i) (ath (colr (crounds (cstB key ctr nonce 3) k) i) (4 + i)) (ath (colr (crounds (cstB key ctr nonce 3) k) i) (8 + i)) (ath (colr (crounds (cstB key ctr nonce 3) k) i) (12 + i)))), (b32 (qd (ath (colr (crounds (cstB key ctr nonce 3) k) i) i) (ath (colr (crounds (cstB key ctr nonce 3) k) i) (4 + i)) (ath (colr (crounds (cstB key ctr nonce 3) k) i) (8 + i)) (ath (colr (crounds (cstB key ctr nonce 3) k) i) (12 + i))))]) rfl rfl rfl) (.inr rfl) rfl rfl ?_
   refine D_pure (i := 27) [0, 1, 2, 3, 4] rfl kr rfl (pr_ext (vs := [(b32 (qa (ath (colr (crounds (cstB key ctr nonce 3) k) i) i) (ath (colr (crounds (cstB key ctr nonce 3) k) i) (4 + i)) (ath (colr (crounds (cstB key ctr nonce 3) k) i) (8 + i)) (ath (colr (crounds (cstB key ctr nonce 3) k) i) (12 + i)))), (b32 (qb (ath (colr (crounds (cstB key ctr nonce 3) k) i) i) (ath (colr (crounds (cstB key ctr nonce 3) k) i) (4 + i)) (ath (colr (crounds (cstB key ctr nonce 3) k) i) (8 + i)) (ath (colr (crounds (cstB key ctr nonce 3) k) i) (12 + i)))), (b32 (qc (ath (colr (crounds (cstB key ctr nonce 3) k) i) i) (ath (colr (crounds (cstB key ctr nonce 3) k) i) (4 + i)) (ath (colr (crounds (cstB key ctr nonce 3) k) i) (8 + i)) (ath (colr (crounds (cstB key ctr nonce 3) k) i) (12 + i)))), (b32 (qd (ath (colr (crounds (cstB key ctr nonce 3) k) i) i) (ath (colr (crounds (cstB key ctr nonce 3) k) i) (4 + i)) (ath (colr (crounds (cstB key ctr nonce 3) k) i) (8 + i)) (ath (colr (crounds (cstB key ctr nonce 3) k) i) (12 + i))))]) rfl rfl rfl) (.inr rfl) rfl rfl ?_
   refine D_pure (i := 28) [0, 1, 2, 3, 4] rfl kr rfl (pr_ixa (j := i) (m' := i) sd (by omega) Try.underlying135 (z := 1) kr rfl rfl rfl) (.inr rfl) rfl rfl ?_
   refine D_one 29 _ rfl kr rfl (op_store (vs := [(b32 (qa (ath (colr (crounds (cstB key ctr nonce 3) k) i) i) (ath (colr (crounds (cstB key ctr nonce 3) k) i) (4 + i)) (ath (colr (crounds (cstB key ctr nonce 3) k) i) (8 + i)) (ath (colr (crounds (cstB key ctr nonce 3) k) i) (12 + i))))]) (cs' := ((List.set (colr (crounds (cstB key ctr nonce 3) k) i) i (qa (ath (colr (crounds (cstB key ctr nonce 3) k) i) i) (ath (colr (crounds (cstB key ctr nonce 3) k) i) (4 + i)) (ath (colr (crounds (cstB key ctr nonce 3) k) i) (8 + i)) (ath (colr (crounds (cstB key ctr nonce 3) k) i) (12 + i)))).map b32)) 0 rfl rfl kr (one_one rfl) (stl sd) (splice_map (f := b32) sd) rfl rfl rfl rfl ?_)
   refine D_past kr ?_
   refine D_pure (i := 30) [] rfl kr rfl (pr_ixa (j := 4 + i) (m' := 4 + i) sd (by omega) Try.underlying135 (z := 1) kr rfl rfl rfl) (.inl kr) rfl rfl ?_
   refine D_one 31 _ rfl kr rfl (op_store (vs := [(b32 (qb (ath (colr (crounds (cstB key ctr nonce 3) k) i) i) (ath (colr (crounds (cstB key ctr nonce 3) k) i) (4 + i)) (ath (colr (crounds (cstB key ctr nonce 3) k) i) (8 + i)) (ath (colr (crounds (cstB key ctr nonce 3) k) i) (12 + i))))]) (cs' := ((List.set (List.set (colr (crounds (cstB key ctr nonce 3) k) i) i (qa (ath (colr (crounds (cstB key ctr nonce 3) k) i) i) (ath (colr (crounds (cstB key ctr nonce 3) k) i) (4 + i)) (ath (colr (crounds (cstB key ctr nonce 3) k) i) (8 + i)) (ath (colr (crounds (cstB key ctr nonce 3) k) i) (12 + i)))) (4 + i) (qb (ath (colr (crounds (cstB key ctr nonce 3) k) i) i) (ath (colr (crounds (cstB key ctr nonce 3) k) i) (4 + i)) (ath (colr (crounds (cstB key ctr nonce 3) k) i) (8 + i)) (ath (colr (crounds (cstB key ctr nonce 3) k) i) (12 + i)))).map b32)) 0 rfl rfl kr (one_one rfl) (stl sd) (splice_map (f := b32) sd) rfl rfl rfl rfl ?_)
   refine D_past kr ?_
   refine D_pure (i := 32) [] rfl kr rfl (pr_ixa (j := 8 + i) (m' := 8 + i) sd (by omega) Try.underlying135 (z := 1) kr rfl rfl rfl) (.inl kr) rfl rfl ?_
   refine D_one 33 _ rfl kr rfl (op_store (vs := [(b32 (qc (ath (colr (crounds (cstB key ctr nonce 3) k) i) i) (ath (colr (crounds (cstB key ctr nonce 3) k) i) (4 + i)) (ath (colr (crounds (cstB key ctr nonce 3) k) i) (8 + i)) (ath (colr (crounds (cstB key ctr nonce 3) k) i) (12 + i))))]) (cs' := ((List.set (List.set (List.set (colr (crounds (cstB key ctr nonce 3) k) i) i (qa (ath (colr (crounds (cstB key ctr nonce 3) k) i) i) (ath (colr (crounds (cstB key ctr nonce 3) k) i) (4 + i)) (ath (colr (crounds (cstB key ctr nonce 3) k) i) (8 + i)) (ath (colr (crounds (cstB key ctr nonce 3) k) i) (12 + i)))) (4 + i) (qb (ath (colr (crounds (cstB key ctr nonce 3) k) i) i) (ath (colr (crounds (cstB key ctr nonce 3) k) i) (4 + i)) (ath (colr (crounds (cstB key ctr nonce 3) k) i) (8 + i)) (ath (colr (crounds (cstB key ctr nonce 3) k) i) (12 + i)))) (8 + i) (qc (ath (colr (crounds (cstB key ctr nonce 3) k) i) i) (ath (colr (crounds (cstB key ctr nonce 3) k) i) (4 + i)) (ath (colr (crounds (cstB key ctr nonce 3) k) i) (8 + i)) (ath (colr (crounds (cstB key ctr nonce 3) k) i) (12 + i)))).map b32)) 0 rfl rfl kr (one_one rfl) (stl sd) (splice_map (f := b32) sd) rfl rfl rfl rfl ?_)
   refine D_past kr ?_
   refine D_pure (i := 34) [] rfl kr rfl (pr_ixa (j := 12 + i) (m' := 12 + i) sd (by omega) Try.underlying135 (z := 1) kr rfl rfl rfl) (.inl kr) rfl rfl ?_
   refine D_one 35 _ rfl kr rfl (op_store (vs := [(b32 (qd (ath (colr (crounds (cstB key ctr nonce 3) k) i) i) (ath (colr (crounds (cstB key ctr nonce 3) k) i) (4 + i)) (ath (colr (crounds (cstB key ctr nonce 3) k) i) (8 + i)) (ath (colr (crounds (cstB key ctr nonce 3) k) i) (12 + i))))]) (cs' := ((List.set (List.set (List.set (List.set (colr (crounds (cstB key ctr nonce 3) k) i) i (qa (ath (colr (crounds (cstB key ctr nonce 3) k) i) i) (ath (colr (crounds (cstB key ctr nonce 3) k) i) (4 + i)) (ath (colr (crounds (cstB key ctr nonce 3) k) i) (8 + i)) (ath (colr (crounds (cstB key ctr nonce 3) k) i) (12 + i)))) (4 + i) (qb (ath (colr (crounds (cstB key ctr nonce 3) k) i) i) (ath (colr (crounds (cstB key ctr nonce 3) k) i) (4 + i)) (ath (colr (crounds (cstB key ctr nonce 3) k) i) (8 + i)) (ath (colr (crounds (cstB key ctr nonce 3) k) i) (12 + i)))) (8 + i) (qc (ath (colr (crounds (cstB key ctr nonce 3) k) i) i) (ath (colr (crounds (cstB key ctr nonce 3) k) i) (4 + i)) (ath (colr (crounds (cstB key ctr nonce 3) k) i) (8 + i)) (ath (colr (crounds (cstB key ctr nonce 3) k) i) (12 + i)))) (12 + i) (qd (ath (colr (crounds (cstB key ctr nonce 3) k) i) i) (ath (colr (crounds (cstB key ctr nonce 3) k) i) (4 + i)) (ath (colr (crounds (cstB key ctr nonce 3) k) i) (8 + i)) (ath (colr (crounds (cstB key ctr nonce 3) k) i) (12 + i)))).map b32)) 0 rfl rfl kr (one_one rfl) (stl sd) (splice_map (f := b32) sd) rfl rfl rfl rfl ?_)
   refine D_past kr ?_
   refine D_done kr ?_
   refine T_reg hF rfl ?_
   refine lo rfl (pr_add (na_i64 (a := i) (b := 1) sd) rfl rfl rfl) rfl rfl ?_
   refine lm rfl rfl rfl rfl rfl ?_
   refine L_nil ?_
   refine T_as 0 _ (.blk g7 135 ((colr (crounds (cstB key ctr nonce 3) k) (i + 1)).map b32)) rfl (by rw [colr_succ, ← qr4_def]) ?_
   exact T_again (i + 1) (by first | trivial | ((try dsimp only); first | omega | (refine ⟨?_, ?_⟩ <;> omega) | (refine ⟨?_, ?_, ?_⟩ <;> omega) | (simp; done) | (simp; omega))) (by first | trivial | ((try dsimp only); first | omega | (refine ⟨?_, ?_⟩ <;> omega) | (refine ⟨?_, ?_, ?_⟩ <;> omega) | (simp; done) | (simp; omega))) (sc rfl (sc rfl (sc rfl (sc rfl (sc rfl sn))))) [0, 1, 2, 3, 4] ⟨by decide, rfl⟩
  ·
   have hc_9 := of_decide_eq_false hc_9
   refine T_exit rfl ?_
   obtain rfl : 4 = i := by omega
   refine Tsr hF rfl ?_
   refine lm rfl rfl rfl rfl rfl ?_
   refine L_nil ?_
   refine T_block ?_
   refine T_as 0 _ (.blk g7 135 ((diar (colr (crounds (cstB key ctr nonce 3) k) 4) 0).map b32)) rfl (by rw [diar_zero]) ?_
   refine T_loop (T := Nat) (fun i => i ≤ 4) (fun i => [(6, (.pointer (some ⟨g3, 0, none⟩))), (7, (.pointer (some ⟨g6, 0, none⟩))), (8, (.pointer (some ⟨g7, 0, none⟩))), (21, (.int .i64 ((k : Nat) : Int))), (59, (.int .i64 ((i : Nat) : Int)))]) (fun i => [.blk g7 135 ((diar (colr (crounds (cstB key ctr nonce 3) k) 4) i).map b32), .blk g6 135 ((cstB key ctr nonce 3).map b32), .blk g3 125 ((List.replicate 64 0#8).map b8), .blk g2 86 (nonce.map b8), .blk g1 50 (key.map b8)]) (fun i => 4 - i) 0 (by first | trivial | ((try dsimp only); first | omega | (refine ⟨?_, ?_⟩ <;> omega) | (refine ⟨?_, ?_, ?_⟩ <;> omega) | (simp; done) | (simp; omega))) (sc rfl (sc rfl (sc rfl (sc rfl (sc rfl sn))))) [0, 1, 2, 3, 4] ⟨by decide, rfl⟩ ?_
   rintro i hp
   have hp : i ≤ 4 := hp
   have hci := cd16 (k := i) (cc16 (k := 4) hck)
   refine T_re [(6, (.pointer (some ⟨g3, 0, none⟩))), (7, (.pointer (some ⟨g6, 0, none⟩))), (8, (.pointer (some ⟨g7, 0, none⟩))), (21, (.int .i64 ((k : Nat) : Int))), (59, (.int .i64 ((i : Nat) : Int)))] (sc rfl (sc rfl (sc rfl (sc rfl (sc rfl sn))))) ?_
   refine T_he [0, 1, 2, 3, 4] [.blk g7 135 ((diar (colr (crounds (cstB key ctr nonce 3) k) 4) i).map b32), .blk g6 135 ((cstB key ctr nonce 3).map b32), .blk g3 125 ((List.replicate 64 0#8).map b8), .blk g2 86 (nonce.map b8), .blk g1 50 (key.map b8)] ⟨by decide, rfl⟩ ?_
   refine Tsr hF rfl ?_
   refine lo rfl (pr_cmp (bo := .lss) (nc_lt (a := i) (b := 4)) rfl rfl rfl rfl) rfl rfl ?_
   refine L_nil ?_
   refine T_seq ?_
   refine T_cond (decide (i < 4)) rfl (fun hc_12 => ?_) (fun hc_12 => ?_)
   ·
    have hc_12 := of_decide_eq_true hc_12
    refine T_skip ?_
    refine T_seq ?_
    refine T_block ?_
    refine Tsr hF rfl ?_
    refine lm rfl rfl rfl rfl rfl ?_
    refine la rfl rfl rfl rfl rfl ?_
    refine L_nil ?_
    refine Tsr hF rfl ?_
    refine lm rfl rfl rfl rfl rfl ?_
    refine lo rfl (pr_add (na_i64 (a := i) (b := 1) sd) rfl rfl rfl) rfl rfl ?_
    refine lo rfl (pr_rem (a := i + 1) (b := 4) sd rfl rfl rfl) rfl rfl ?_
    refine lo rfl (pr_add (na_i64 (a := 4) (b := (i + 1) % 4) sd) rfl rfl rfl) rfl rfl ?_
    refine lm rfl rfl rfl rfl rfl ?_
    refine lo rfl (pr_add (na_i64 (a := i) (b := 2) sd) rfl rfl rfl) rfl rfl ?_
    refine lo rfl (pr_rem (a := i + 2) (b := 4) sd rfl rfl rfl) rfl rfl ?_
    refine lo rfl (pr_add (na_i64 (a := 8) (b := (i + 2) % 4) sd) rfl rfl rfl) rfl rfl ?_
    refine lm rfl rfl rfl rfl rfl ?_
    refine lo rfl (pr_add (na_i64 (a := i) (b := 3) sd) rfl rfl rfl) rfl rfl ?_
    refine lo rfl (pr_rem (a := i + 3) (b := 4) sd rfl rfl rfl) rfl rfl ?_
    refine lo rfl (pr_add (na_i64 (a := 12) (b := (i + 3) % 4) sd) rfl rfl rfl) rfl rfl ?_
    refine la rfl rfl rfl rfl rfl ?_
    refine la rfl rfl rfl rfl rfl ?_
    refine la rfl rfl rfl rfl rfl ?_
    refine L_nil ?_
    refine T_regD [.blk g7 135 ((diar (colr (crounds (cstB key ctr nonce 3) k) 4) i).map b32), .blk g6 135 ((cstB key ctr nonce 3).map b32), .blk g3 125 ((List.replicate 64 0#8).map b8), .blk g2 86 (nonce.map b8), .blk g1 50 (key.map b8)] 23 30 #[false, false, false, false, false, false, false, false, false, false, false, false, false, false, false, false, false, false, false, false, false, false, false, false, false, false, false, false, false, false] hF kr kr ?_
    refine D_pure (i := 0) [0, 1, 2, 3, 4] rfl kr rfl (pr_move rfl rfl) (.inr rfl) rfl rfl ?_
    refine D_pure (i := 1) [0, 1, 2, 3, 4] rfl kr rfl (pr_move rfl rfl) (.inr rfl) rfl rfl ?_
    refine D_pure (i := 2) [0, 1, 2, 3, 4] rfl kr rfl (pr_move rfl rfl) (.inr rfl) rfl rfl ?_
    refine D_pure (i := 3) [0, 1, 2, 3, 4] rfl kr rfl (pr_move rfl rfl) (.inr rfl) rfl rfl ?_
    refine D_pure (i := 4) [0, 1, 2, 3, 4] rfl kr rfl (pr_move rfl rfl) (.inr rfl) rfl rfl ?_
    refine D_pure (i := 5) [0, 1, 2, 3, 4] rfl kr rfl (pr_ixa (j := i) (m' := i) sd (by omega) Try.underlying135 (z := 1) kr rfl rfl rfl) (.inr rfl) rfl rfl ?_
    refine D_pure (i := 7) [0, 1, 2, 3, 4] rfl kr rfl (pr_move rfl rfl) (.inr rfl) rfl rfl ?_
    refine D_pure (i := 8) [0, 1, 2, 3, 4] rfl kr rfl (pr_ixa (j := 4 + ((i + 1) % 4)) (m' := 4 + ((i + 1) % 4)) sd (by omega) Try.underlying135 (z := 1) kr rfl rfl rfl) (.inr rfl) rfl rfl ?_
    refine D_pure (i := 10) [0, 1, 2, 3, 4] rfl kr rfl (pr_move rfl rfl) (.inr rfl) rfl rfl ?_
    refine D_pure (i := 11) [0, 1, 2, 3, 4] rfl kr rfl (pr_ixa (j := 8 + ((i + 2) % 4)) (m' := 8 + ((i + 2) % 4)) sd (by omega) Try.underlying135 (z := 1) kr rfl rfl rfl) (.inr rfl) rfl rfl ?_
    refine D_pure (i := 13) [0, 1, 2, 3, 4] rfl kr rfl (pr_move rfl rfl) (.inr rfl) rfl rfl ?_
    refine D_pure (i := 14) [0, 1, 2, 3, 4] rfl kr rfl (pr_ixa (j := 12 + ((i + 3) % 4)) (m' := 12 + ((i + 3) % 4)) sd (by omega) Try.underlying135 (z := 1) kr rfl rfl rfl) (.inr rfl) rfl rfl ?_
    refine D_take (i := 6) [0, 1, 2, 3, 4] rfl kr rfl (ld_blk 0 rfl (get32 sd) Try.underlying112 rfl rfl rfl) rfl rfl rfl ?_
    refine D_take (i := 9) [0, 1, 2, 3, 4] rfl kr rfl (ld_blk 0 rfl (get32 sd) Try.underlying112 rfl rfl rfl) rfl rfl rfl ?_
    refine D_take (i := 12) [0, 1, 2, 3, 4] rfl kr rfl (ld_blk 0 rfl (get32 sd) Try.underlying112 rfl rfl rfl) rfl rfl rfl ?_
    refine D_take (i := 15) [0, 1, 2, 3, 4] rfl kr rfl (ld_blk 0 rfl (get32 sd) Try.underlying112 rfl rfl rfl) rfl rfl rfl ?_
    refine D_one 16 _ rfl kr rfl (op_cn (fun w hw => quarter_f (ath (diar (colr (crounds (cstB key ctr nonce 3) k) 4) i) i) (ath (diar (colr (crounds (cstB key ctr nonce 3) k) 4) i) (4 + ((i + 1) % 4))) (ath (diar (colr (crounds (cstB key ctr nonce 3) k) 4) i) (8 + ((i + 2) % 4))) (ath (diar (colr (crounds (cstB key ctr nonce 3) k) 4) i) (12 + ((i + 3) % 4))) w (hok_nil w) ) (enters_of Try.func88 kr rfl) rfl rfl rfl rfl rfl (fun t13 q14 => ?_))
    refine D_on [0, 1, 2, 3, 4] rfl ?_
    refine D_pure (i := 17) [0, 1, 2, 3, 4] rfl kr rfl (pr_move rfl rfl) (.inr rfl) rfl rfl ?_
    refine D_pure (i := 18) [0, 1, 2, 3, 4] rfl kr rfl (pr_ext (vs := [(b32 (qa (ath (diar (colr (crounds (cstB key ctr nonce 3) k) 4) i) i) (ath (diar (colr (crounds (cstB key ctr nonce 3) k) 4) i) (4 + ((i + 1) % 4))) (ath (diar (colr (crounds (cstB key ctr nonce 3) k) 4) i) (8 + ((i + 2) % 4))) (ath (diar (colr (crounds (cstB key ctr nonce 3) k) 4) i) (12 + ((i + 3) % 4))))), (b32 (qb (ath (diar (colr (crounds (cstB key ctr nonce 3) k) 4) i) i) (ath (diar (colr (crounds (cstB key ctr nonce 3) k) 4) i) (4 + ((i + 1) % 4))) (ath (diar (colr (crounds (cstB key ctr nonce 3) k) 4) i) (8 + ((i + 2) % 4))) (ath (diar (colr (crounds (cstB key ctr nonce 3) k) 4) i) (12 + ((i + 3) % 4))))), (b32 (qc (ath (diar (colr (crounds (cstB key ctr nonce 3) k) 4) i) i) (ath (diar (colr (crounds (cstB key ctr nonce 3) k) 4) i) (4 + ((i + 1) % 4))) (ath (diar (colr (crounds (cstB key ctr nonce 3) k) 4) i) (8 + ((i + 2) % 4))) (ath (diar (colr (crounds (cstB key ctr nonce 3) k) 4) i) (12 + ((i + 3) % 4))))), (b32 (qd (ath (diar (colr (crounds (cstB key ctr nonce 3) k) 4) i) i) (ath (diar (colr (crounds (cstB key ctr nonce 3) k) 4) i) (4 + ((i + 1) % 4))) (ath (diar (colr (crounds (cstB key ctr nonce 3) k) 4) i) (8 + ((i + 2) % 4))) (ath (diar (colr (crounds (cstB key ctr nonce 3) k) 4) i) (12 + ((i + 3) % 4)))))]) rfl rfl rfl) (.inr rfl) rfl rfl ?_
    refine D_pure (i := 19) [0, 1, 2, 3, 4] rfl kr rfl (pr_ext (vs := [(b32 (qa (ath (diar (colr (crounds (cstB key ctr nonce 3) k) 4) i) i) (ath (diar (colr (crounds (cstB key ctr nonce 3) k) 4) i) (4 + ((i + 1) % 4))) (ath (diar (colr (crounds (cstB key ctr nonce 3) k) 4) i) (8 + ((i + 2) % 4))) (ath (diar (colr (crounds (cstB key ctr nonce 3) k) 4) i) (12 + ((i + 3) % 4))))), (b32 (qb (ath (diar (colr (crounds (cstB key ctr nonce 3) k) 4) i) i) (ath (diar (colr (crounds (cstB key ctr nonce 3) k) 4) i) (4 + ((i + 1) % 4))) (ath (diar (colr (crounds (cstB key ctr nonce 3) k) 4) i) (8 + ((i + 2) % 4))) (ath (diar (colr (crounds (cstB key ctr nonce 3) k) 4) i) (12 + ((i + 3) % 4))))), (b32 (qc (ath (diar (colr (crounds (cstB key ctr nonce 3) k) 4) i) i) (ath (diar (colr (crounds (cstB key ctr nonce 3) k) 4) i) (4 + ((i + 1) % 4))) (ath (diar (colr (crounds (cstB key ctr nonce 3) k) 4) i) (8 + ((i + 2) % 4))) (ath (diar (colr (crounds (cstB key ctr nonce 3) k) 4) i) (12 + ((i + 3) % 4))))), (b32 (qd (ath (diar (colr (crounds (cstB key ctr nonce 3) k) 4) i) i) (ath (diar (colr (crounds (cstB key ctr nonce 3) k) 4) i) (4 + ((i + 1) % 4))) (ath (diar (colr (crounds (cstB key ctr nonce 3) k) 4) i) (8 + ((i + 2) % 4))) (ath (diar (colr (crounds (cstB key ctr nonce 3) k) 4) i) (12 + ((i + 3) % 4)))))]) rfl rfl rfl) (.inr rfl) rfl rfl ?_
    refine D_pure (i := 20) [0, 1, 2, 3, 4] rfl kr rfl (pr_ext (vs := [(b32 (qa (ath (diar (colr (crounds (cstB key ctr nonce 3) k) 4) i) i) (ath (diar (colr (crounds (cstB key ctr nonce 3) k) 4) i) (4 + ((i + 1) % 4))) (ath (diar (colr (crounds (cstB key ctr nonce 3) k) 4) i) (8 + ((i + 2) % 4))) (ath (diar (colr (crounds (cstB key ctr nonce 3) k) 4) i) (12 + ((i + 3) % 4))))), (b32 (qb (ath (diar (colr (crounds (cstB key ctr nonce 3) k) 4) i) i) (ath (diar (colr (crounds (cstB key ctr nonce 3) k) 4) i) (4 + ((i + 1) % 4))) (ath (diar (colr (crounds (cstB key ctr nonce 3) k) 4) i) (8 + ((i + 2) % 4))) (ath (diar (colr (crounds (cstB key ctr nonce 3) k) 4) i) (12 + ((i + 3) % 4))))), (b32 (qc (ath (diar (colr (crounds (cstB key ctr nonce 3) k) 4) i) i) (ath (diar (colr (crounds (cstB key ctr nonce 3) k) 4) i) (4 + ((i + 1) % 4))) (ath (diar (colr (crounds (cstB key ctr nonce 3) k) 4) i) (8 + ((i + 2) % 4))) (ath (diar (colr (crounds (cstB key ctr nonce 3) k) 4) i) (12 + ((i + 3) % 4))))), (b32 (qd (ath (diar (colr (crounds (cstB key ctr nonce 3) k) 4) i) i) (ath (diar (colr (crounds (cstB key ctr nonce 3) k) 4) i) (4 + ((i + 1) % 4))) (ath (diar (colr (crounds (cstB key ctr nonce 3) k) 4) i) (8 + ((i + 2) % 4))) (ath (diar (colr (crounds (cstB key ctr nonce 3) k) 4) i) (12 + ((i + 3) % 4)))))]) rfl rfl rfl) (.inr rfl) rfl rfl ?_
    refine D_pure (i := 21) [0, 1, 2, 3, 4] rfl kr rfl (pr_ext (vs := [(b32 (qa (ath (diar (colr (crounds (cstB key ctr nonce 3) k) 4) i) i) (ath (diar (colr (crounds (cstB key ctr nonce 3) k) 4) i) (4 + ((i + 1) % 4))) (ath (diar (colr (crounds (cstB key ctr nonce 3) k) 4) i) (8 + ((i + 2) % 4))) (ath (diar (colr (crounds (cstB key ctr nonce 3) k) 4) i) (12 + ((i + 3) % 4))))), (b32 (qb (ath (diar (colr (crounds (cstB key ctr nonce 3) k) 4) i) i) (ath (diar (colr (crounds (cstB key ctr nonce 3) k) 4) i) (4 + ((i + 1) % 4))) (ath (diar (colr (crounds (cstB key ctr nonce 3) k) 4) i) (8 + ((i + 2) % 4))) (ath (diar (colr (crounds (cstB key ctr nonce 3) k) 4) i) (12 + ((i + 3) % 4))))), (b32 (qc (ath (diar (colr (crounds (cstB key ctr nonce 3) k) 4) i) i) (ath (diar (colr (crounds (cstB key ctr nonce 3) k) 4) i) (4 + ((i + 1) % 4))) (ath (diar (colr (crounds (cstB key ctr nonce 3) k) 4) i) (8 + ((i + 2) % 4))) (ath (diar (colr (crounds (cstB key ctr nonce 3) k) 4) i) (12 + ((i + 3) % 4))))), (b32 (qd (ath (diar (colr (crounds (cstB key ctr nonce 3) k) 4) i) i) (ath (diar (colr (crounds (cstB key ctr nonce 3) k) 4) i) (4 + ((i + 1) % 4))) (ath (diar (colr (crounds (cstB key ctr nonce 3) k) 4) i) (8 + ((i + 2) % 4))) (ath (diar (colr (crounds (cstB key ctr nonce 3) k) 4) i) (12 + ((i + 3) % 4)))))]) rfl rfl rfl) (.inr rfl) rfl rfl ?_
    refine D_pure (i := 22) [0, 1, 2, 3, 4] rfl kr rfl (pr_ixa (j := i) (m' := i) sd (by omega) Try.underlying135 (z := 1) kr rfl rfl rfl) (.inr rfl) rfl rfl ?_
    refine D_one 23 _ rfl kr rfl (op_store (vs := [(b32 (qa (ath (diar (colr (crounds (cstB key ctr nonce 3) k) 4) i) i) (ath (diar (colr (crounds (cstB key ctr nonce 3) k) 4) i) (4 + ((i + 1) % 4))) (ath (diar (colr (crounds (cstB key ctr nonce 3) k) 4) i) (8 + ((i + 2) % 4))) (ath (diar (colr (crounds (cstB key ctr nonce 3) k) 4) i) (12 + ((i + 3) % 4)))))]) (cs' := ((List.set (diar (colr (crounds (cstB key ctr nonce 3) k) 4) i) i (qa (ath (diar (colr (crounds (cstB key ctr nonce 3) k) 4) i) i) (ath (diar (colr (crounds (cstB key ctr nonce 3) k) 4) i) (4 + ((i + 1) % 4))) (ath (diar (colr (crounds (cstB key ctr nonce 3) k) 4) i) (8 + ((i + 2) % 4))) (ath (diar (colr (crounds (cstB key ctr nonce 3) k) 4) i) (12 + ((i + 3) % 4))))).map b32)) 0 rfl rfl kr (one_one rfl) (stl sd) (splice_map (f := b32) sd) rfl rfl rfl rfl ?_)
    refine D_past kr ?_
    refine D_pure (i := 24) [] rfl kr rfl (pr_ixa (j := 4 + ((i + 1) % 4)) (m' := 4 + ((i + 1) % 4)) sd (by omega) Try.underlying135 (z := 1) kr rfl rfl rfl) (.inl kr) rfl rfl ?_
    refine D_one 25 _ rfl kr rfl (op_store (vs := [(b32 (qb (ath (diar (colr (crounds (cstB key ctr nonce 3) k) 4) i) i) (ath (diar (colr (crounds (cstB key ctr nonce 3) k) 4) i) (4 + ((i + 1) % 4))) (ath (diar (colr (crounds (cstB key ctr nonce 3) k) 4) i) (8 + ((i + 2) % 4))) (ath (diar (colr (crounds (cstB key ctr nonce 3) k) 4) i) (12 + ((i + 3) % 4)))))]) (cs' := ((List.set (List.set (diar (colr (crounds (cstB key ctr nonce 3) k) 4) i) i (qa (ath (diar (colr (crounds (cstB key ctr nonce 3) k) 4) i) i) (ath (diar (colr (crounds (cstB key ctr nonce 3) k) 4) i) (4 + ((i + 1) % 4))) (ath (diar (colr (crounds (cstB key ctr nonce 3) k) 4) i) (8 + ((i + 2) % 4))) (ath (diar (colr (crounds (cstB key ctr nonce 3) k) 4) i) (12 + ((i + 3) % 4))))) (4 + ((i + 1) % 4)) (qb (ath (diar (colr (crounds (cstB key ctr nonce 3) k) 4) i) i) (ath (diar (colr (crounds (cstB key ctr nonce 3) k) 4) i) (4 + ((i + 1) % 4))) (ath (diar (colr (crounds (cstB key ctr nonce 3) k) 4) i) (8 + ((i + 2) % 4))) (ath (diar (colr (crounds (cstB key ctr nonce 3) k) 4) i) (12 + ((i + 3) % 4))))).map b32)) 0 rfl rfl kr (one_one rfl) (stl sd) (splice_map (f := b32) sd) rfl rfl rfl rfl ?_)
    refine D_past kr ?_
    refine D_pure (i := 26) [] rfl kr rfl (pr_ixa (j := 8 + ((i + 2) % 4)) (m' := 8 + ((i + 2) % 4)) sd (by omega) Try.underlying135 (z := 1) kr rfl rfl rfl) (.inl kr) rfl rfl ?_
    refine D_one 27 _ rfl kr rfl (op_store (vs := [(b32 (qc (ath (diar (colr (crounds (cstB key ctr nonce 3) k) 4) i) i) (ath (diar (colr (crounds (cstB key ctr nonce 3) k) 4) i) (4 + ((i + 1) % 4))) (ath (diar (colr (crounds (cstB key ctr nonce 3) k) 4) i) (8 + ((i + 2) % 4))) (ath (diar (colr (crounds (cstB key ctr nonce 3) k) 4) i) (12 + ((i + 3) % 4)))))]) (cs' := ((List.set (List.set (List.set (diar (colr (crounds (cstB key ctr nonce 3) k) 4) i) i (qa (ath (diar (colr (crounds (cstB key ctr nonce 3) k) 4) i) i) (ath (diar (colr (crounds (cstB key ctr nonce 3) k) 4) i) (4 + ((i + 1) % 4))) (ath (diar (colr (crounds (cstB key ctr nonce 3) k) 4) i) (8 + ((i + 2) % 4))) (ath (diar (colr (crounds (cstB key ctr nonce 3) k) 4) i) (12 + ((i + 3) % 4))))) (4 + ((i + 1) % 4)) (qb (ath (diar (colr (crounds (cstB key ctr nonce 3) k) 4) i) i) (ath (diar (colr (crounds (cstB key ctr nonce 3) k) 4) i) (4 + ((i + 1) % 4))) (ath (diar (colr (crounds (cstB key ctr nonce 3) k) 4) i) (8 + ((i + 2) % 4))) (ath (diar (colr (crounds (cstB key ctr nonce 3) k) 4) i) (12 + ((i + 3) % 4))))) (8 + ((i + 2) % 4)) (qc (ath (diar (colr (crounds (cstB key ctr nonce 3) k) 4) i) i) (ath (diar (colr (crounds (cstB key ctr nonce 3) k) 4) i) (4 + ((i + 1) % 4))) (ath (diar (colr (crounds (cstB key ctr nonce 3) k) 4) i) (8 + ((i + 2) % 4))) (ath (diar (colr (crounds (cstB key ctr nonce 3) k) 4) i) (12 + ((i + 3) % 4))))).map b32)) 0 rfl rfl kr (one_one rfl) (stl sd) (splice_map (f := b32) sd) rfl rfl rfl rfl ?_)
    refine D_past kr ?_
    refine D_pure (i := 28) [] rfl kr rfl (pr_ixa (j := 12 + ((i + 3) % 4)) (m' := 12 + ((i + 3) % 4)) sd (by omega) Try.underlying135 (z := 1) kr rfl rfl rfl) (.inl kr) rfl rfl ?_
    refine D_one 29 _ rfl kr rfl (op_store (vs := [(b32 (qd (ath (diar (colr (crounds (cstB key ctr nonce 3) k) 4) i) i) (ath (diar (colr (crounds (cstB key ctr nonce 3) k) 4) i) (4 + ((i + 1) % 4))) (ath (diar (colr (crounds (cstB key ctr nonce 3) k) 4) i) (8 + ((i + 2) % 4))) (ath (diar (colr (crounds (cstB key ctr nonce 3) k) 4) i) (12 + ((i + 3) % 4)))))]) (cs' := ((List.set (List.set (List.set (List.set (diar (colr (crounds (cstB key ctr nonce 3) k) 4) i) i (qa (ath (diar (colr (crounds (cstB key ctr nonce 3) k) 4) i) i) (ath (diar (colr (crounds (cstB key ctr nonce 3) k) 4) i) (4 + ((i + 1) % 4))) (ath (diar (colr (crounds (cstB key ctr nonce 3) k) 4) i) (8 + ((i + 2) % 4))) (ath (diar (colr (crounds (cstB key ctr nonce 3) k) 4) i) (12 + ((i + 3) % 4))))) (4 + ((i + 1) % 4)) (qb (ath (diar (colr (crounds (cstB key ctr nonce 3) k) 4) i) i) (ath (diar (colr (crounds (cstB key ctr nonce 3) k) 4) i) (4 + ((i + 1) % 4))) (ath (diar (colr (crounds (cstB key ctr nonce 3) k) 4) i) (8 + ((i + 2) % 4))) (ath (diar (colr (crounds (cstB key ctr nonce 3) k) 4) i) (12 + ((i + 3) % 4))))) (8 + ((i + 2) % 4)) (qc (ath (diar (colr (crounds (cstB key ctr nonce 3) k) 4) i) i) (ath (diar (colr (crounds (cstB key ctr nonce 3) k) 4) i) (4 + ((i + 1) % 4))) (ath (diar (colr (crounds (cstB key ctr nonce 3) k) 4) i) (8 + ((i + 2) % 4))) (ath (diar (colr (crounds (cstB key ctr nonce 3) k) 4) i) (12 + ((i + 3) % 4))))) (12 + ((i + 3) % 4)) (qd (ath (diar (colr (crounds (cstB key ctr nonce 3) k) 4) i) i) (ath (diar (colr (crounds (cstB key ctr nonce 3) k) 4) i) (4 + ((i + 1) % 4))) (ath (diar (colr (crounds (cstB key ctr nonce 3) k) 4) i) (8 + ((i + 2) % 4))) (ath (diar (colr (crounds (cstB key ctr nonce 3) k) 4) i) (12 + ((i + 3) % 4))))).map b32)) 0 rfl rfl kr (one_one rfl) (stl sd) (splice_map (f := b32) sd) rfl rfl rfl rfl ?_)
    refine D_past kr ?_
    refine D_done kr ?_
    refine T_reg hF rfl ?_
    refine lo rfl (pr_add (na_i64 (a := i) (b := 1) sd) rfl rfl rfl) rfl rfl ?_
    refine lm rfl rfl rfl rfl rfl ?_
    refine L_nil ?_
    refine T_as 0 _ (.blk g7 135 ((diar (colr (crounds (cstB key ctr nonce 3) k) 4) (i + 1)).map b32)) rfl (by rw [diar_succ, ← qr4_def]) ?_
    exact T_again (i + 1) (by first | trivial | ((try dsimp only); first | omega | (refine ⟨?_, ?_⟩ <;> omega) | (refine ⟨?_, ?_, ?_⟩ <;> omega) | (simp; done) | (simp; omega))) (by first | trivial | ((try dsimp only); first | omega | (refine ⟨?_, ?_⟩ <;> omega) | (refine ⟨?_, ?_, ?_⟩ <;> omega) | (simp; done) | (simp; omega))) (sc rfl (sc rfl (sc rfl (sc rfl (sc rfl sn))))) [0, 1, 2, 3, 4] ⟨by decide, rfl⟩
   ·
    have hc_12 := of_decide_eq_false hc_12
    refine T_exit rfl ?_
    obtain rfl : 4 = i := by omega
    refine T_reg hF rfl ?_
    refine lo rfl (pr_add (na_i64 (a := k) (b := 1) sd) rfl rfl rfl) rfl rfl ?_
    refine lm rfl rfl rfl rfl rfl ?_
    refine L_nil ?_
    refine T_as 0 _ (.blk g7 135 ((crounds (cstB key ctr nonce 3) (k + 1)).map b32)) rfl (by rw [crounds_succ]) ?_
    exact T_again (k + 1) (by first | trivial | ((try dsimp only); first | omega | (refine ⟨?_, ?_⟩ <;> omega) | (refine ⟨?_, ?_, ?_⟩ <;> omega) | (simp; done) | (simp; omega))) (by first | trivial | ((try dsimp only); first | omega | (refine ⟨?_, ?_⟩ <;> omega) | (refine ⟨?_, ?_, ?_⟩ <;> omega) | (simp; done) | (simp; omega))) (sc rfl (sc rfl (sc rfl (sc rfl sn)))) [0, 1, 2, 3, 4] ⟨by decide, rfl⟩
 ·
  have hc_8 := of_decide_eq_false hc_8
  refine T_exit rfl ?_
  obtain rfl : 10 = k := by omega
  refine Tsr hF rfl ?_
  refine L_op rfl (op_make (z := (b8 (0#8))) (n := 0) (c := 64) Try.underlying23 (bytes := 1) kr rfl sd sd sd rfl rfl rfl rfl rfl (fun g15 => ?_))
  refine T_as 0 _ (.blk g15 5 ((List.replicate 64 0#8).map b8)) rfl (by rw [List.map_replicate]) ?_
  refine la rfl rfl rfl rfl rfl ?_
  refine L_nil ?_
  refine T_seq ?_
  refine Tsr hF rfl ?_
  refine lm rfl rfl rfl rfl rfl ?_
  refine L_nil ?_
  refine T_block ?_
  refine T_slot 14 (.slice (some ⟨g15, 0, none⟩) 0 64) (.slice (some ⟨g15, 0, none⟩) (4 * 0) 64) rfl (by first | rfl | (congr 2; omega) | (simp; omega)) ?_
  refine T_rowb 0 (zs := ((outb (crounds (cstB key ctr nonce 3) 10) (cstB key ctr nonce 3) 0).map b8)) 1 (4 * 0) 64 rfl sd sd sd (by rw [outb_zero]; rfl) ?_
  refine T_loop (T := Nat × Option Addr × Nat) (fun ⟨i, A1, c1⟩ => i ≤ 16) (fun ⟨i, A1, c1⟩ => [(6, (.pointer (some ⟨g3, 0, none⟩))), (7, (.pointer (some ⟨g6, 0, none⟩))), (8, (.pointer (some ⟨g7, 0, none⟩))), (14, (.slice A1 (4 * i) c1)), (103, (.int .i64 ((i : Nat) : Int)))]) (fun ⟨i, A1, c1⟩ => [.row (.slice A1 (4 * i) c1) 5 1 (4 * i) ((outb (crounds (cstB key ctr nonce 3) 10) (cstB key ctr nonce 3) i).map b8), .blk g7 135 ((crounds (cstB key ctr nonce 3) 10).map b32), .blk g6 135 ((cstB key ctr nonce 3).map b32), .blk g3 125 ((List.replicate 64 0#8).map b8), .blk g2 86 (nonce.map b8), .blk g1 50 (key.map b8)]) (fun ⟨i, A1, c1⟩ => 16 - i) (0, some ⟨g15, 0, none⟩, 64) (by first | trivial | ((try dsimp only); first | omega | (refine ⟨?_, ?_⟩ <;> omega) | (refine ⟨?_, ?_, ?_⟩ <;> omega) | (simp; done) | (simp; omega))) (sc rfl (sc rfl (sc rfl (sc rfl (sc rfl sn))))) [0, 1, 2, 3, 4, 5] ⟨by decide, rfl⟩ ?_
  rintro ⟨i, A1, c1⟩ hp
  have hp : i ≤ 16 := hp
  have hoi := hol i
  have hc10 := hcr 10
  refine T_re [(6, (.pointer (some ⟨g3, 0, none⟩))), (7, (.pointer (some ⟨g6, 0, none⟩))), (8, (.pointer (some ⟨g7, 0, none⟩))), (14, (.slice A1 (4 * i) c1)), (103, (.int .i64 ((i : Nat) : Int)))] (sc rfl (sc rfl (sc rfl (sc rfl (sc rfl sn))))) ?_
  refine T_he [0, 1, 2, 3, 4, 5] [.row (.slice A1 (4 * i) c1) 5 1 (4 * i) ((outb (crounds (cstB key ctr nonce 3) 10) (cstB key ctr nonce 3) i).map b8), .blk g7 135 ((crounds (cstB key ctr nonce 3) 10).map b32), .blk g6 135 ((cstB key ctr nonce 3).map b32), .blk g3 125 ((List.replicate 64 0#8).map b8), .blk g2 86 (nonce.map b8), .blk g1 50 (key.map b8)] ⟨by decide, rfl⟩ ?_
  refine Tsr hF rfl ?_
  refine lo rfl (pr_cmp (bo := .lss) (nc_lt (a := i) (b := 16)) rfl rfl rfl rfl) rfl rfl ?_
  refine L_nil ?_
  refine T_seq ?_
  refine T_cond (decide (i < 16)) rfl (fun hc_16 => ?_) (fun hc_16 => ?_)
  ·
   have hc_16 := of_decide_eq_true hc_16
   refine T_skip ?_
   refine T_seq ?_
   refine T_block ?_
   refine Tsr hF rfl ?_
   refine lm rfl rfl rfl rfl rfl ?_
   refine la rfl rfl rfl rfl rfl ?_
   refine L_nil ?_
   refine T_regD [.row (.slice A1 (4 * i) c1) 5 1 (4 * i) ((outb (crounds (cstB key ctr nonce 3) 10) (cstB key ctr nonce 3) i).map b8), .blk g7 135 ((crounds (cstB key ctr nonce 3) 10).map b32), .blk g6 135 ((cstB key ctr nonce 3).map b32), .blk g3 125 ((List.replicate 64 0#8).map b8), .blk g2 86 (nonce.map b8), .blk g1 50 (key.map b8)] 9 11 #[false, false, false, false, false, false, false, false, false, false, false] hF kr kr ?_
   refine D_pure (i := 0) [0, 1, 2, 3, 4, 5] rfl kr rfl (pr_move rfl rfl) (.inr rfl) rfl rfl ?_
   refine D_pure (i := 1) [0, 1, 2, 3, 4, 5] rfl kr rfl (pr_move rfl rfl) (.inr rfl) rfl rfl ?_
   refine D_pure (i := 2) [0, 1, 2, 3, 4, 5] rfl kr rfl (pr_ixa (j := i) (m' := i) sd (by omega) Try.underlying135 (z := 1) kr rfl rfl rfl) (.inr rfl) rfl rfl ?_
   refine D_pure (i := 4) [0, 1, 2, 3, 4, 5] rfl kr rfl (pr_move rfl rfl) (.inr rfl) rfl rfl ?_
   refine D_pure (i := 5) [0, 1, 2, 3, 4, 5] rfl kr rfl (pr_ixa (j := i) (m' := i) sd (by omega) Try.underlying135 (z := 1) kr rfl rfl rfl) (.inr rfl) rfl rfl ?_
   refine D_take (i := 3) [0, 1, 2, 3, 4, 5] rfl kr rfl (ld_blk 1 rfl (get32 sd) Try.underlying112 rfl rfl rfl) rfl rfl rfl ?_
   refine D_take (i := 6) [0, 1, 2, 3, 4, 5] rfl kr rfl (ld_blk 2 rfl (get32 sd) Try.underlying112 rfl rfl rfl) rfl rfl rfl ?_
   refine D_pure (i := 7) [0, 1, 2, 3, 4, 5] rfl kr rfl (pr_add (add32 _ _) rfl rfl rfl) (.inr rfl) rfl rfl ?_
   refine D_pure (i := 8) [0, 1, 2, 3, 4, 5] rfl kr rfl (pr_cv (cv32_64 _) Try.underlying112 Try.underlying30 rfl rfl) (.inr rfl) rfl rfl ?_
   refine D_one 9 _ rfl kr rfl (op_c1 0 rfl (fun w hw => putLow_f (outb (crounds (cstB key ctr nonce 3) 10) (cstB key ctr nonce 3) i) (((ath (crounds (cstB key ctr nonce 3) 10) i) + (ath (cstB key ctr nonce 3) i)).setWidth 64) 4 A1 (4 * i) c1 w (hw _ (List.mem_of_getElem? (i := 0) rfl)) sd sd) (enters_of Try.func60 kr rfl) rfl rfl rfl rfl rfl (fun t17 q18 => ?_))
   obtain ⟨B19, d20⟩ := t17
   refine D_past kr ?_
   refine D_pure (i := 10) [] rfl kr rfl (pr_assign rfl rfl) (.inl kr) rfl rfl ?_
   refine D_done kr ?_
   refine T_reg hF rfl ?_
   refine lo rfl (pr_add (na_i64 (a := i) (b := 1) sd) rfl rfl rfl) rfl rfl ?_
   refine lm rfl rfl rfl rfl rfl ?_
   refine L_nil ?_
   refine T_slot 14 (.slice B19 ((4 * i) + 4) d20) (.slice B19 (4 * (i + 1)) d20) rfl (by rfl) ?_
   refine T_as 0 _ (.row (.slice B19 (4 * (i + 1)) d20) 5 1 (4 * (i + 1)) ((outb (crounds (cstB key ctr nonce 3) 10) (cstB key ctr nonce 3) (i + 1)).map b8)) rfl (by rw [outb_succ]; rfl) ?_
   exact T_again (i + 1, B19, d20) (by first | trivial | ((try dsimp only); first | omega | (refine ⟨?_, ?_⟩ <;> omega) | (refine ⟨?_, ?_, ?_⟩ <;> omega) | (simp; done) | (simp; omega))) (by first | trivial | ((try dsimp only); first | omega | (refine ⟨?_, ?_⟩ <;> omega) | (refine ⟨?_, ?_, ?_⟩ <;> omega) | (simp; done) | (simp; omega))) (sc rfl (sc rfl (sc rfl (sc rfl (sc rfl sn))))) [0, 1, 2, 3, 4, 5] ⟨by decide, rfl⟩
  ·
   have hc_16 := of_decide_eq_false hc_16
   refine T_exit rfl ?_
   obtain rfl : 16 = i := by omega
   refine Tsr hF rfl ?_
   refine lm rfl rfl rfl rfl rfl ?_
   refine lo rfl (pr_s2a sd Try.underlying125 rfl rfl) rfl rfl ?_
   refine lq rfl (ld_aggs (ds := ((outb (crounds (cstB key ctr nonce 3) 10) (cstB key ctr nonce 3) 16).map b8)) (src_row 0 rfl) (List.take_length) (by have h1 : (((outb (crounds (cstB key ctr nonce 3) 10) (cstB key ctr nonce 3) 16).map b8)).length = 64 := sd; omega) Try.underlying125 rfl (fwz (n := 64) kr sd) rfl rfl) rfl rfl ?_
   refine L_op rfl (op_sto (n := 64) (vs := ((outb (crounds (cstB key ctr nonce 3) 10) (cstB key ctr nonce 3) 16).map b8)) 3 rfl rfl kr (all8_one _) kr sd rfl rfl rfl rfl ?_)
   refine L_nil ?_
   refine T_ret ?_
   refine T_as 0 _ (.blk g3 125 ((cblock key ctr nonce).map b8)) rfl (by rw [cblock_def]) ?_
   exact T_fin () (by first | trivial | omega | (simp; done)) (resb 0 rfl rfl rfl Try.underlying125 rfl (fwz (n := 64) kr sd)) [] ⟨by decide, rfl⟩ rfl
end Go.Proofs.Ytlplpmkdebemnaa
namespace Go.Proofs.Ytlplpmkdebemnaa
set_option linter.unusedVariables false
set_option linter.unusedSimpArgs false
set_option linter.unnecessarySimpa false
set_option maxRecDepth 100000
open Go.RowKit Bv Fw

set_option maxHeartbeats 4000000 in
theorem blocks_seq (key : List (BitVec 8)) (ctr : BitVec 32) (nonce : List (BitVec 8)) (g1 : Nat) (g2 : Nat) (g3 : Nat) (N : Nat) (hk : key.length = 32) (hn : nonce.length = 12) : SeqX true (Θ := Unit) Try.prog 86 [(.pointer (some ⟨g1, 0, none⟩)), (.pointer (some ⟨g2, 0, none⟩)), (.pointer (some ⟨g3, 0, none⟩))] [.rd (some ⟨g1, 0, none⟩) 1 1 1 [(b32 ctr)], .rd (some ⟨g2, 0, none⟩) 1 32 32 (key.map b8), .rd (some ⟨g3, 0, none⟩) 1 12 12 (nonce.map b8)] N (fun k _ => [(.agg ((cblock key (ctr + (BitVec.ofNat 32 k)) nonce).map b8).toArray)]) (fun k _ => []) := by
 have hF : Wid Fence.wide := wid_wide
 refine enter_seq (c := _) Try.func86 rfl (by rw [Try.ntmps86]; rfl) rfl ?_
 intro l J Jx W O R hsJ hsX hy hend
 rw [Try.ntmps86]
 refine T_re [(0, (.func (.yield l) #[] #[])), (1, (.pointer (some ⟨g1, 0, none⟩))), (2, (.pointer (some ⟨g2, 0, none⟩))), (3, (.pointer (some ⟨g3, 0, none⟩)))] (sc rfl (sc rfl (sc rfl (sc rfl sn)))) ?_
 refine T_he [0, 1, 2, 3] [.inv W.heap.size O R (J 0 O R), .rd (some ⟨g1, 0, none⟩) 1 1 1 [(b32 ctr)], .rd (some ⟨g2, 0, none⟩) 1 32 32 (key.map b8), .rd (some ⟨g3, 0, none⟩) 1 12 12 (nonce.map b8)] ⟨by decide, rfl⟩ ?_
 refine Tsr hF rfl ?_
 refine lq rfl (ld_rdb (src_rd 1 rfl) rfl Try.underlying112 rfl rfl rfl) rfl rfl ?_
 refine la rfl rfl rfl rfl rfl ?_
 refine L_nil ?_
 refine T_block ?_
 refine T_slot 5 (b32 ctr) (b32 (ctr + (BitVec.ofNat 32 0))) rfl (by rw [ctr_zero]) ?_
 refine T_loop (T := Nat × List Nat × List Nat) (fun ⟨k, O, R⟩ => k ≤ N) (fun ⟨k, O, R⟩ => [(0, (.func (.yield l) #[] #[])), (2, (.pointer (some ⟨g2, 0, none⟩))), (3, (.pointer (some ⟨g3, 0, none⟩))), (5, (b32 (ctr + (BitVec.ofNat 32 k))))]) (fun ⟨k, O, R⟩ => [.inv W.heap.size O R (J k O R), .rd (some ⟨g1, 0, none⟩) 1 1 1 [(b32 ctr)], .rd (some ⟨g2, 0, none⟩) 1 32 32 (key.map b8), .rd (some ⟨g3, 0, none⟩) 1 12 12 (nonce.map b8)]) (fun ⟨k, O, R⟩ => N - k) (0, O, R) (by first | trivial | ((try dsimp only); first | omega | (refine ⟨?_, ?_⟩ <;> omega) | (refine ⟨?_, ?_, ?_⟩ <;> omega) | (simp; done) | (simp; omega))) (sc rfl (sc rfl (sc rfl (sc rfl sn)))) [0, 1, 2, 3] ⟨by decide, rfl⟩ ?_
 rintro ⟨k, O, R⟩ hp
 have hp : k ≤ N := hp
 refine T_re [(0, (.func (.yield l) #[] #[])), (2, (.pointer (some ⟨g2, 0, none⟩))), (3, (.pointer (some ⟨g3, 0, none⟩))), (5, (b32 (ctr + (BitVec.ofNat 32 k))))] (sc rfl (sc rfl (sc rfl (sc rfl sn)))) ?_
 refine T_he [0, 1, 2, 3] [.inv W.heap.size O R (J k O R), .rd (some ⟨g1, 0, none⟩) 1 1 1 [(b32 ctr)], .rd (some ⟨g2, 0, none⟩) 1 32 32 (key.map b8), .rd (some ⟨g3, 0, none⟩) 1 12 12 (nonce.map b8)] ⟨by decide, rfl⟩ ?_
 refine T_seq ?_
 refine T_seq ?_
 refine T_regI ?_
 refine LI_opP hF rfl rfl (op_pr (pr_move rfl rfl) rfl rfl ?_)
 refine LI_opP hF rfl rfl (op_ld (ld_aggs (ds := (key.map b8)) (src_rd 2 rfl) (List.take_length) (by have h1 : ((key.map b8)).length = 32 := sd; omega) Try.underlying50 rfl (fwz (n := 32) kr sd) rfl rfl) rfl rfl ?_)
 refine LI_opP hF rfl rfl (op_pr (pr_move rfl rfl) rfl rfl ?_)
 refine LI_opP hF rfl rfl (op_ld (ld_aggs (ds := (nonce.map b8)) (src_rd 3 rfl) (List.take_length) (by have h1 : ((nonce.map b8)).length = 12 := sd; omega) Try.underlying86 rfl (fwz (n := 12) kr sd) rfl rfl) rfl rfl ?_)
 refine LI_opP hF rfl rfl (op_cn (fun w hw => cblock_f key (ctr + (BitVec.ofNat 32 k)) nonce w (hok_nil w) (by first | assumption | exact sd) (by first | assumption | exact sd)) (enters_of Try.func79 kr rfl) rfl rfl rfl rfl rfl (fun t1 q2 => ?_))
 refine T_know (p := k ≠ N) (fun w hw e => hend rfl _ _ _ (e ▸ (hw _ (List.mem_of_getElem? (i := 0) rfl)).1)) (fun hke_3 => ?_)
 refine LI_op rfl (op_yield (k := k) () hy sd hsJ hsX 0 rfl [] rfl rfl rfl rfl rfl rfl rfl rfl rfl (fun _ => trivial) (fun O4 R5 => ?_) (fun O6 R7 => ?_))
 ·
  refine LI_nil ?_
  refine T_cond_t rfl ?_
  refine T_skip ?_
  refine T_seq ?_
  refine T_block ?_
  refine T_skip ?_
  refine T_reg hF rfl ?_
  refine lm rfl rfl rfl rfl rfl ?_
  refine lo rfl (pr_add (add32 _ (1#32)) rfl rfl rfl) rfl rfl ?_
  refine la rfl rfl rfl rfl rfl ?_
  refine L_nil ?_
  refine T_slot 5 (b32 ((ctr + (BitVec.ofNat 32 k)) + 1#32)) (b32 (ctr + (BitVec.ofNat 32 (k + 1)))) rfl (by rw [ctr_next]) ?_
  exact T_again (k + 1, O4, R5) (by first | trivial | ((try dsimp only); first | omega | (refine ⟨?_, ?_⟩ <;> omega) | (refine ⟨?_, ?_, ?_⟩ <;> omega) | (simp; done) | (simp; omega))) (by first | trivial | ((try dsimp only); first | omega | (refine ⟨?_, ?_⟩ <;> omega) | (refine ⟨?_, ?_, ?_⟩ <;> omega) | (simp; done) | (simp; omega))) (sc rfl (sc rfl (sc rfl (sc rfl sn)))) [0, 1, 2, 3] ⟨by decide, rfl⟩
 ·
  refine LI_nil ?_
  refine T_cond_f rfl ?_
  refine T_exit rfl ?_
  exact T_finX rfl rfl 0 rfl
set_option maxHeartbeats 4000000 in
theorem blocks_f (key : List (BitVec 8)) (nonce : List (BitVec 8)) (ctr : BitVec 32) (w : World) (hO : HOK [] w) (hk : key.length = 32) (hn : nonce.length = 12) : Calls Try.prog 78 [(.agg (key.map b8).toArray), (.agg (nonce.map b8).toArray), (b32 ctr)].toArray w (Ret (T := Nat × Nat × Nat) [] w (fun ⟨g1, g2, g3⟩ => True) (fun ⟨g1, g2, g3⟩ => (.func (.func 86) #[] [(.pointer (some ⟨g1, 0, none⟩)), (.pointer (some ⟨g2, 0, none⟩)), (.pointer (some ⟨g3, 0, none⟩))].toArray)) (fun ⟨g1, g2, g3⟩ => [.old (some ⟨g1, 0, none⟩) 1 1 1 [(b32 ctr)], .old (some ⟨g2, 0, none⟩) 1 32 32 (key.map b8), .old (some ⟨g3, 0, none⟩) 1 12 12 (nonce.map b8)])) := by
 have hF : Wid Fence.wide := wid_wide
 refine enter (c := _) Try.func78 rfl [] _ [] (by rw [Try.ntmps78]; rfl) (own_rds hO rfl) ?_
 rw [Try.ntmps78]
 refine T_re [(0, (.agg (key.map b8).toArray)), (1, (.agg (nonce.map b8).toArray)), (2, (b32 ctr))] (sc rfl (sc rfl (sc rfl sn))) ?_
 refine T_he [] [] ⟨by decide, rfl⟩ ?_
 refine Tsr hF rfl ?_
 refine L_op rfl (op_box (zs := (key.map b8)) rfl rfl rfl rfl rfl (fun g1 => ?_))
 refine L_op rfl (op_box (zs := (nonce.map b8)) rfl rfl rfl rfl rfl (fun g2 => ?_))
 refine L_op rfl (op_box (zs := [(b32 ctr)]) rfl rfl rfl rfl rfl (fun g3 => ?_))
 refine la rfl rfl rfl rfl rfl ?_
 refine L_nil ?_
 refine Tsr hF rfl ?_
 refine lo rfl (pr_mkfn (us := []) (vs := [(.pointer (some ⟨g3, 0, none⟩)), (.pointer (some ⟨g1, 0, none⟩)), (.pointer (some ⟨g2, 0, none⟩))]) rfl rfl rfl) rfl rfl ?_
 refine la rfl rfl rfl rfl rfl ?_
 refine L_nil ?_
 refine T_ret ?_
 refine T_oldb 0 (zs := [(b32 ctr)]) 0 1 1 1 rfl rfl rfl sd sd ?_
 refine T_oldb 2 (zs := (key.map b8)) 0 1 32 32 rfl sd (by first | rfl | (rw [List.drop_zero, List.take_of_length_le (by simp; omega)]) | simp [List.map_take, List.map_drop]) sd sd ?_
 refine T_oldb 2 (zs := (nonce.map b8)) 0 1 12 12 rfl sd (by first | rfl | (rw [List.drop_zero, List.take_of_length_le (by simp; omega)]) | simp [List.map_take, List.map_drop]) sd sd ?_
 exact T_fin (g3, g1, g2) (by first | trivial | omega | (simp; done)) (res1 rfl rfl) [2, 1, 0] ⟨by decide, rfl⟩ rfl
theorem xor_blk (i : Nat) (h : i % 64 = 0) (h2 : ¬ (i + 1) % 64 = 0) : (i + 1) / 64 = i / 64 := by omega
theorem xor_blk2 (i : Nat) (h2 : ¬ (i + 1) % 64 = 0) : (i + 1) / 64 = i / 64 := by omega

theorem xor_at {key nonce : List (BitVec 8)} {ctr : BitVec 32} (k i : Nat) (h : i < 64) : ath (cblock key (ctr + BitVec.ofNat 32 ((64 * k + i) / 64)) nonce) ((64 * k + i) % 64) = ath (cblock key (ctr + BitVec.ofNat 32 k) nonce) i := by
  rw [show (64 * k + i) / 64 = k by omega, show (64 * k + i) % 64 = i by omega]

set_option maxRecDepth 100000 in
set_option maxHeartbeats 4000000 in
theorem xor_pos_f (key : List (BitVec 8)) (nonce : List (BitVec 8)) (ctr : BitVec 32) (xs : List (BitVec 8)) (A : Option Addr) (n : Nat) (c : Nat) (w : World) (hO : HOK [.rd A 1 n c (xs.map b8)] w) (hk : key.length = 32) (hn : nonce.length = 12) (hx : xs.length = n) (hn9 : n ≤ 100000000) (hpos : 0 < n) : Calls Try.prog 69 [(.agg (key.map b8).toArray), (.agg (nonce.map b8).toArray), (b32 ctr), (.slice A n c)].toArray w (Ret (T := Option Addr × Nat) [] w (fun ⟨B, d⟩ => True) (fun ⟨B, d⟩ => (.slice B n d)) (fun ⟨B, d⟩ => [.row (.slice B n d) 5 1 n ((cxor key nonce ctr xs).map b8)])) := by
 have hbl := fun c => cblock_len key c nonce
 have hF : Wid Fence.wide := wid_wide
 refine enter_m (c := _) Try.func69 rfl [] _ [.rd A 1 n c (xs.map b8)] (by rw [Try.ntmps69]; rfl) (own_rds hO rfl) ?_
 rw [Try.ntmps69]
 refine T_re [(0, (.agg (key.map b8).toArray)), (1, (.agg (nonce.map b8).toArray)), (2, (b32 ctr)), (3, (.slice A n c))] (sc rfl (sc rfl (sc rfl (sc rfl sn)))) ?_
 refine T_he [0] [.rd A 1 n c (xs.map b8)] ⟨by decide, rfl⟩ ?_
 refine Tsr hF rfl ?_
 refine L_op rfl (op_box (zs := (key.map b8)) rfl rfl rfl rfl rfl (fun g1 => ?_))
 refine L_op rfl (op_box (zs := (nonce.map b8)) rfl rfl rfl rfl rfl (fun g2 => ?_))
 refine L_op rfl (op_box (zs := [(.slice A n c)]) rfl rfl rfl rfl rfl (fun g3 => ?_))
 refine la rfl rfl rfl rfl rfl ?_
 refine L_nil ?_
 refine T_scope rfl ?_
 refine Tsr hF rfl ?_
 refine lq rfl (ld_blk 0 rfl rfl Try.underlying23 rfl rfl rfl) rfl rfl ?_
 refine lo rfl (pr_len_sl Try.underlying23 rfl rfl) rfl rfl ?_
 refine L_op rfl (op_make (z := (b8 (0#8))) (n := 0) (c := n) Try.underlying23 (bytes := 1) kr rfl sd sd sd rfl rfl rfl rfl rfl (fun g4 => ?_))
 refine T_as 0 _ (.blk g4 5 ((List.replicate n 0#8).map b8)) rfl (by rw [List.map_replicate]) ?_
 refine L_op rfl (op_alloc (z := (.slice none 0 0)) (zs := [(.slice none 0 0)]) kr rfl rfl rfl rfl (fun g5 => ?_))
 refine L_op rfl (op_store (vs := [(.slice (some ⟨g4, 0, none⟩) 0 n)]) (cs' := [(.slice (some ⟨g4, 0, none⟩) 0 n)]) 0 rfl rfl kr (one_one rfl) (by first | decide | simp | exact Nat.le_refl _) rfl rfl rfl rfl rfl ?_)
 refine L_nil ?_
 refine T_seq ?_
 refine Tsr hF rfl ?_
 refine lq rfl (ld_blk 2 rfl rfl Try.underlying23 rfl rfl rfl) rfl rfl ?_
 refine lo rfl (pr_len_sl Try.underlying23 rfl rfl) rfl rfl ?_
 refine lo rfl (pr_cmp (bo := .eql) (nc_eq (a := n) (b := 0)) rfl rfl rfl rfl) rfl rfl ?_
 refine L_nil ?_
 refine T_cond_no (t := (n == 0)) rfl (by simp; omega) ?_
 refine T_skip ?_
 refine T_seq ?_
 refine T_label ?_
 refine T_seq ?_
 refine Tsr hF rfl ?_
 refine lq rfl (ld_agg (ds := (key.map b8)) 4 rfl agg_all Try.underlying50 rfl (fwz (n := 32) kr sd) rfl rfl) rfl rfl ?_
 refine lq rfl (ld_agg (ds := (nonce.map b8)) 3 rfl agg_all Try.underlying86 rfl (fwz (n := 12) kr sd) rfl rfl) rfl rfl ?_
 refine lm rfl rfl rfl rfl rfl ?_
 refine L_op rfl (op_cn (fun w hw => blocks_f key nonce ctr w (hok_nil w) (by first | assumption | exact sd) (by first | assumption | exact sd)) (enters_of Try.func78 kr rfl) rfl rfl rfl rfl rfl (fun t6 q7 => ?_))
 obtain ⟨g1_8, g2_9, g3_10⟩ := t6
 refine L_nil ?_
 refine T_block ?_
 refine T_tord 0 rfl ?_
 refine T_tord 1 rfl ?_
 refine T_tord 2 rfl ?_
 refine T_as 3 _ (.blk g5 23 [(.slice (some ⟨g4, 0, none⟩) (64 * 0) n)]) rfl (by first | rfl | simp | (congr 1; simp)) ?_
 refine T_rowb 4 (zs := ((xorb key nonce ctr xs (64 * 0)).map b8)) 1 (64 * 0) n rfl sd sd sd (by rw [show 64 * 0 = 0 from rfl, xorb_zero]; rfl) ?_
 refine T_range (Θ := Unit) (T := Option Addr × Nat) (Tx := Option Addr × Nat) (cap := [(.pointer (some ⟨g1_8, 0, none⟩)), (.pointer (some ⟨g2_9, 0, none⟩)), (.pointer (some ⟨g3_10, 0, none⟩))]) (ps := [24]) (blocks_seq key ctr nonce g1_8 g2_9 g3_10 n sd sd) rfl (enters_of Try.func86 kr rfl) (fun k ⟨A1, c1⟩ => 64 * k < n) (fun k ⟨A1, c1⟩ => [.rd (some ⟨g3_10, 0, none⟩) 1 12 12 (nonce.map b8), .rd (some ⟨g2_9, 0, none⟩) 1 32 32 (key.map b8), .rd (some ⟨g1_8, 0, none⟩) 1 1 1 [(b32 ctr)], .blk g5 23 [(.slice A1 (64 * k) c1)], .row (.slice A1 (64 * k) c1) 5 1 (64 * k) ((xorb key nonce ctr xs (64 * k)).map b8), .blk g3 23 [(.slice A n c)], .blk g2 86 (nonce.map b8), .blk g1 50 (key.map b8), .rd A 1 n c (xs.map b8)]) (fun ⟨A1, c1⟩ => True) (fun ⟨A1, c1⟩ => [.rd (some ⟨g3_10, 0, none⟩) 1 12 12 (nonce.map b8), .rd (some ⟨g2_9, 0, none⟩) 1 32 32 (key.map b8), .rd (some ⟨g1_8, 0, none⟩) 1 1 1 [(b32 ctr)], .blk g5 23 [(.slice A1 n c1)], .row (.slice A1 n c1) 5 1 n ((cxor key nonce ctr xs).map b8), .blk g3 23 [(.slice A n c)], .blk g2 86 (nonce.map b8), .blk g1 50 (key.map b8), .rd A 1 n c (xs.map b8)]) 0 (some ⟨g4, 0, none⟩, n) (by omega) [2, 3, 4, 1, 0, 5, 6, 7, 8] ⟨by decide, rfl⟩ [4, 3, 2] rfl rfl (fun _ _ => rfl) (fun _ => rfl) (fun _ _ => rfl) (fun _ _ => rfl) rfl (fun _ => trivial) (hE := fun _ t hp => by omega) ?_ ?_ ?_
 ·
  intro C2 w2 lo2 rs2 l D m k t th rc hrec hk hp
  obtain ⟨A1, c1⟩ := t
  have hp : 64 * k < n := hp
  have hk : k < n := hk
  have hblk := hbl (ctr + BitVec.ofNat 32 k)
  have hF : Wid (Fence.wide.inRound l) := wid_round l
  refine T_re [(7, (.pointer (some ⟨g3, 0, none⟩))), (9, (.pointer (some ⟨g5, 0, none⟩))), (24, (.agg ((cblock key (ctr + (BitVec.ofNat 32 k)) nonce).map b8).toArray))] (sc rfl (sc rfl (sc rfl sn))) ?_
  refine T_he [0, 1, 2, 3, 4, 5, 6, 7, 8, 9, 10] [.obj l (.loop rc), .obj D (.deferred (some [])), .rd (some ⟨g3_10, 0, none⟩) 1 12 12 (nonce.map b8), .rd (some ⟨g2_9, 0, none⟩) 1 32 32 (key.map b8), .rd (some ⟨g1_8, 0, none⟩) 1 1 1 [(b32 ctr)], .blk g5 23 [(.slice A1 (64 * k) c1)], .row (.slice A1 (64 * k) c1) 5 1 (64 * k) ((xorb key nonce ctr xs (64 * k)).map b8), .blk g3 23 [(.slice A n c)], .blk g2 86 (nonce.map b8), .blk g1 50 (key.map b8), .rd A 1 n c (xs.map b8)] ⟨by decide, rfl⟩ ?_
  refine T_reg hF rfl ?_
  refine L_op rfl (op_alloc (z := .agg ((List.replicate 64 0#8).map b8).toArray) (zs := ((List.replicate 64 0#8).map b8)) kr rfl rfl rfl rfl (fun g11 => ?_))
  refine L_op rfl (op_sto (n := 64) (vs := ((cblock key (ctr + (BitVec.ofNat 32 k)) nonce).map b8)) 0 rfl rfl kr (all8_one _) kr sd rfl rfl rfl rfl ?_)
  refine L_nil ?_
  refine T_begun 1 rfl hrec ?_
  refine T_block ?_
  refine Tsr hF rfl ?_
  refine lq rfl (ld_agg (ds := ((cblock key (ctr + (BitVec.ofNat 32 k)) nonce).map b8)) 1 rfl agg_all Try.underlying125 rfl (fwz (n := 64) kr sd) rfl rfl) rfl rfl ?_
  refine lm rfl rfl rfl rfl rfl ?_
  refine L_nil ?_
  refine T_block ?_
  refine T_as 6 _ (.blk g5 23 [(.slice A1 (64 * k + 0) c1)]) rfl (by rfl) ?_
  refine T_as 7 _ (.row (.slice A1 (64 * k + 0) c1) 5 1 (64 * k + 0) ((xorb key nonce ctr xs (64 * k + 0)).map b8)) rfl (by rfl) ?_
  refine T_loop (T := Nat × Option Addr × Nat) (fun ⟨i, A2, c2⟩ => i ≤ 64 ∧ 64 * k + i < n) (fun ⟨i, A2, c2⟩ => [(7, (.pointer (some ⟨g3, 0, none⟩))), (9, (.pointer (some ⟨g5, 0, none⟩))), (25, (.agg ((cblock key (ctr + (BitVec.ofNat 32 k)) nonce).map b8).toArray)), (26, (.int .i64 ((i : Nat) : Int)))]) (fun ⟨i, A2, c2⟩ => [.obj l (.loop { rc with state := .busy }), .blk g11 125 ((cblock key (ctr + (BitVec.ofNat 32 k)) nonce).map b8), .obj D (.deferred (some [])), .rd (some ⟨g3_10, 0, none⟩) 1 12 12 (nonce.map b8), .rd (some ⟨g2_9, 0, none⟩) 1 32 32 (key.map b8), .rd (some ⟨g1_8, 0, none⟩) 1 1 1 [(b32 ctr)], .blk g5 23 [(.slice A2 (64 * k + i) c2)], .row (.slice A2 (64 * k + i) c2) 5 1 (64 * k + i) ((xorb key nonce ctr xs (64 * k + i)).map b8), .blk g3 23 [(.slice A n c)], .blk g2 86 (nonce.map b8), .blk g1 50 (key.map b8), .rd A 1 n c (xs.map b8)]) (fun ⟨i, A2, c2⟩ => 64 - i) (0, A1, c1) (by first | trivial | ((try dsimp only); first | omega | (refine ⟨?_, ?_⟩ <;> omega) | (refine ⟨?_, ?_, ?_⟩ <;> omega) | (simp; done) | (simp; omega))) (sc rfl (sc rfl (sc rfl (sc rfl sn)))) [2, 3, 4, 5, 6, 7, 1, 0, 8, 9, 10, 11] ⟨by decide, rfl⟩ ?_
  rintro ⟨i, A2, c2⟩ hp
  have hp : i ≤ 64 ∧ 64 * k + i < n := hp
  refine T_re [(7, (.pointer (some ⟨g3, 0, none⟩))), (9, (.pointer (some ⟨g5, 0, none⟩))), (25, (.agg ((cblock key (ctr + (BitVec.ofNat 32 k)) nonce).map b8).toArray)), (26, (.int .i64 ((i : Nat) : Int)))] (sc rfl (sc rfl (sc rfl (sc rfl sn)))) ?_
  refine T_he [0, 1, 2, 3, 4, 5, 6, 7, 8, 9, 10, 11] [.obj l (.loop { rc with state := .busy }), .blk g11 125 ((cblock key (ctr + (BitVec.ofNat 32 k)) nonce).map b8), .obj D (.deferred (some [])), .rd (some ⟨g3_10, 0, none⟩) 1 12 12 (nonce.map b8), .rd (some ⟨g2_9, 0, none⟩) 1 32 32 (key.map b8), .rd (some ⟨g1_8, 0, none⟩) 1 1 1 [(b32 ctr)], .blk g5 23 [(.slice A2 (64 * k + i) c2)], .row (.slice A2 (64 * k + i) c2) 5 1 (64 * k + i) ((xorb key nonce ctr xs (64 * k + i)).map b8), .blk g3 23 [(.slice A n c)], .blk g2 86 (nonce.map b8), .blk g1 50 (key.map b8), .rd A 1 n c (xs.map b8)] ⟨by decide, rfl⟩ ?_
  refine Tsr hF rfl ?_
  refine lo rfl (pr_cmp (bo := .lss) (nc_lt (a := i) (b := 64)) rfl rfl rfl rfl) rfl rfl ?_
  refine L_nil ?_
  refine T_seq ?_
  refine T_cond (decide (i < 64)) rfl (fun hc_12 => ?_) (fun hc_12 => ?_)
  ·
   have hc_12 := of_decide_eq_true hc_12
   refine T_skip ?_
   refine T_seq ?_
   refine T_block ?_
   refine Tsr hF rfl ?_
   refine lo rfl (pr_ix (cs := ((cblock key (ctr + (BitVec.ofNat 32 k)) nonce).map b8)) (j := i) sd (get8 sd) Try.underlying125 Try.underlying5 rfl kr rfl rfl rfl) rfl rfl ?_
   refine la rfl rfl rfl rfl rfl ?_
   refine L_nil ?_
   refine T_seq ?_
   refine T_regD [.obj l (.loop { rc with state := .busy }), .blk g11 125 ((cblock key (ctr + (BitVec.ofNat 32 k)) nonce).map b8), .obj D (.deferred (some [])), .rd (some ⟨g3_10, 0, none⟩) 1 12 12 (nonce.map b8), .rd (some ⟨g2_9, 0, none⟩) 1 32 32 (key.map b8), .rd (some ⟨g1_8, 0, none⟩) 1 1 1 [(b32 ctr)], .blk g5 23 [(.slice A2 (64 * k + i) c2)], .row (.slice A2 (64 * k + i) c2) 5 1 (64 * k + i) ((xorb key nonce ctr xs (64 * k + i)).map b8), .blk g3 23 [(.slice A n c)], .blk g2 86 (nonce.map b8), .blk g1 50 (key.map b8), .rd A 1 n c (xs.map b8)] 9 11 #[false, false, false, false, false, false, false, false, false, false, false] hF kr kr ?_
   refine D_pure (i := 6) [0, 1, 2, 3, 4, 5, 6, 7, 8, 9, 10, 11] rfl kr rfl (pr_move rfl rfl) (.inr rfl) rfl rfl ?_
   refine D_take (i := 0) [0, 1, 2, 3, 4, 5, 6, 7, 8, 9, 10, 11] rfl kr rfl (ld_blk 6 rfl rfl Try.underlying23 rfl rfl rfl) rfl rfl rfl ?_
   refine D_take (i := 1) [0, 1, 2, 3, 4, 5, 6, 7, 8, 9, 10, 11] rfl kr rfl (ld_blk 8 rfl rfl Try.underlying23 rfl rfl rfl) rfl rfl rfl ?_
   refine D_take (i := 2) [0, 1, 2, 3, 4, 5, 6, 7, 8, 9, 10, 11] rfl kr rfl (ld_blk 6 rfl rfl Try.underlying23 rfl rfl rfl) rfl rfl rfl ?_
   refine D_pure (i := 3) [0, 1, 2, 3, 4, 5, 6, 7, 8, 9, 10, 11] rfl kr rfl (pr_len_sl Try.underlying23 rfl rfl) (.inr rfl) rfl rfl ?_
   refine D_pure (i := 4) [0, 1, 2, 3, 4, 5, 6, 7, 8, 9, 10, 11] rfl kr rfl (pr_ixs1 (j := 64 * k + i) (src_none (src_rd 11 rfl)) sd Try.underlying23 kr rfl rfl rfl) (.inr rfl) rfl rfl ?_
   refine D_take (i := 5) [0, 1, 2, 3, 4, 5, 6, 7, 8, 9, 10, 11] rfl kr rfl (ld_src (m := 64 * k + i) (src_rd 11 rfl) (get8 sd) Try.underlying5 rfl rfl rfl) rfl rfl rfl ?_
   refine D_pure (i := 7) [0, 1, 2, 3, 4, 5, 6, 7, 8, 9, 10, 11] rfl kr rfl (pr_xor (ib_xor8 _ _) rfl rfl rfl) (.inr rfl) rfl rfl ?_
   refine D_one 8 _ rfl kr rfl (op_bslice (e := 5) (zs := [(b8 ((ath xs (64 * k + i)) ^^^ (ath (cblock key (ctr + (BitVec.ofNat 32 k)) nonce) i)))]) (qs := [(0, (b8 ((ath xs (64 * k + i)) ^^^ (ath (cblock key (ctr + (BitVec.ofNat 32 k)) nonce) i))))]) (fun _ => by kernel_rfl) rfl rfl rfl rfl (fun g13 => ?_))
   refine D_on [1, 2, 3, 4, 5, 6, 7, 8, 9, 10, 11, 12] rfl ?_
   refine D_one 9 _ rfl kr rfl (op_append (z := (b8 (0#8))) (size := 1) (bytes := 1) 8 rfl Try.underlying23 kr kr (by decide) (src_full (z := 1) 0 rfl rfl sd sd) (by simp [Value.oneCell']) sd sd rfl rfl rfl rfl rfl (fun A14 C15 => ?_))
   refine T_as 0 _ (.row (.slice A14 (64 * k + i + 1) C15) 5 1 (64 * k + i + 1) (((xorb key nonce ctr xs (64 * k + i)) ++ [((ath xs (64 * k + i)) ^^^ (ath (cblock key (ctr + (BitVec.ofNat 32 k)) nonce) i))]).map b8)) rfl (by first | rfl | (congr 1; simp; done) | (simp only [List.map_append]; rfl) | (rw [List.map_append]; rfl)) ?_
   refine D_past kr ?_
   refine D_one 10 _ rfl kr rfl (op_store (vs := [(.slice A14 (64 * k + i + 1) C15)]) (cs' := [(.slice A14 (64 * k + i + 1) C15)]) 8 rfl rfl kr (one_one rfl) (by first | decide | simp | exact Nat.le_refl _) rfl rfl rfl rfl rfl ?_)
   refine D_past kr ?_
   refine D_done kr ?_
   refine Tsr hF rfl ?_
   refine lq rfl (ld_blk 0 rfl rfl Try.underlying23 rfl rfl rfl) rfl rfl ?_
   refine lo rfl (pr_len_sl Try.underlying23 rfl rfl) rfl rfl ?_
   refine lq rfl (ld_blk 9 rfl rfl Try.underlying23 rfl rfl rfl) rfl rfl ?_
   refine lo rfl (pr_len_sl Try.underlying23 rfl rfl) rfl rfl ?_
   refine lo rfl (pr_cmp (bo := .eql) (nc_eq (a := 64 * k + i + 1) (b := n)) rfl rfl rfl rfl) rfl rfl ?_
   refine L_nil ?_
   refine T_cond (64 * k + i + 1 == n) rfl (fun hc_16 => ?_) (fun hc_16 => ?_)
   ·
    have hc_16 : 64 * k + i + 1 = n := by simpa using hc_16
    refine T_exit rfl ?_
    have hnn : 64 * k + i + 1 = n := by assumption
    refine T_as 0 _ (.blk g5 23 [(.slice A14 n C15)]) rfl (by rw [hnn]) ?_
    refine T_as 1 _ (.row (.slice A14 n C15) 5 1 n ((cxor key nonce ctr xs).map b8)) rfl (by rw [← xor_at k i (by omega), ← xorb_succ, hnn, cxor_def _ _ _ _ _ hx]) ?_
    exact T_on (A14, C15) (by first | trivial | ((try dsimp only); first | omega | (refine ⟨?_, ?_⟩ <;> omega) | (refine ⟨?_, ?_, ?_⟩ <;> omega) | (simp; done) | (simp; omega))) [3, 5, 6, 7, 8, 1, 0, 9, 10, 11, 12] ⟨by decide, rfl⟩
   ·
    have hc_16 : ¬ 64 * k + i + 1 = n := by simpa using hc_16
    refine T_skip ?_
    refine T_reg hF rfl ?_
    refine lo rfl (pr_add (na_i64 (a := i) (b := 1) sd) rfl rfl rfl) rfl rfl ?_
    refine lm rfl rfl rfl rfl rfl ?_
    refine L_nil ?_
    refine T_as 0 _ (.blk g5 23 [(.slice A14 (64 * k + (i + 1)) C15)]) rfl (by rw [← Nat.add_assoc]) ?_
    refine T_as 1 _ (.row (.slice A14 (64 * k + (i + 1)) C15) 5 1 (64 * k + (i + 1)) ((xorb key nonce ctr xs (64 * k + (i + 1))).map b8)) rfl (by rw [← Nat.add_assoc, xorb_succ, xor_at k i (by omega)]) ?_
    exact T_again (i + 1, A14, C15) (⟨by omega, by omega⟩) (by first | trivial | ((try dsimp only); first | omega | (refine ⟨?_, ?_⟩ <;> omega) | (refine ⟨?_, ?_, ?_⟩ <;> omega) | (simp; done) | (simp; omega))) (sc rfl (sc rfl (sc rfl (sc rfl sn)))) [3, 4, 5, 6, 7, 8, 1, 0, 9, 10, 11, 12] ⟨by decide, rfl⟩
  ·
   have hc_12 := of_decide_eq_false hc_12
   refine T_exit rfl ?_
   obtain rfl : 64 = i := by omega
   refine T_as 6 _ (.blk g5 23 [(.slice A2 (64 * (k + 1)) c2)]) rfl (by rw [show 64 * (k + 1) = 64 * k + 64 by omega]) ?_
   refine T_as 7 _ (.row (.slice A2 (64 * (k + 1)) c2) 5 1 (64 * (k + 1)) ((xorb key nonce ctr xs (64 * (k + 1))).map b8)) rfl (by rw [show 64 * (k + 1) = 64 * k + 64 by omega]) ?_
   exact T_on (A2, c2) (by omega) [2, 4, 5, 6, 7, 1, 0, 8, 9, 10, 11] ⟨by decide, rfl⟩
 ·
  intro D t hp
  obtain ⟨A1, c1⟩ := t
  have hp : 64 * n < n := hp
  refine T_re [(9, (.pointer (some ⟨g5, 0, none⟩)))] (sc rfl sn) ?_
  refine T_he [0, 1, 2, 3, 4, 5, 6, 7, 8, 9] [.obj D (.deferred (some [])), .rd (some ⟨g3_10, 0, none⟩) 1 12 12 (nonce.map b8), .rd (some ⟨g2_9, 0, none⟩) 1 32 32 (key.map b8), .rd (some ⟨g1_8, 0, none⟩) 1 1 1 [(b32 ctr)], .blk g5 23 [(.slice A1 (64 * n) c1)], .row (.slice A1 (64 * n) c1) 5 1 (64 * n) ((xorb key nonce ctr xs (64 * n)).map b8), .blk g3 23 [(.slice A n c)], .blk g2 86 (nonce.map b8), .blk g1 50 (key.map b8), .rd A 1 n c (xs.map b8)] ⟨by decide, rfl⟩ ?_
  exfalso; omega
 ·
  intro D t hq
  obtain ⟨A1, c1⟩ := t
  have hq : True := hq
  refine T_exit rfl ?_
  refine T_re [(9, (.pointer (some ⟨g5, 0, none⟩)))] (sc rfl sn) ?_
  refine T_he [0, 1, 2, 3, 4, 5, 6, 7, 8, 9] [.obj D (.deferred (some [])), .rd (some ⟨g3_10, 0, none⟩) 1 12 12 (nonce.map b8), .rd (some ⟨g2_9, 0, none⟩) 1 32 32 (key.map b8), .rd (some ⟨g1_8, 0, none⟩) 1 1 1 [(b32 ctr)], .blk g5 23 [(.slice A1 n c1)], .row (.slice A1 n c1) 5 1 n ((cxor key nonce ctr xs).map b8), .blk g3 23 [(.slice A n c)], .blk g2 86 (nonce.map b8), .blk g1 50 (key.map b8), .rd A 1 n c (xs.map b8)] ⟨by decide, rfl⟩ ?_
  refine Tsr hF rfl ?_
  refine lq rfl (ld_blk 4 rfl rfl Try.underlying23 rfl rfl rfl) rfl rfl ?_
  refine la rfl rfl rfl rfl rfl ?_
  refine L_nil ?_
  refine T_ret ?_
  exact T_finM 0 rfl (A1, c1) (by first | trivial | omega | (simp; done)) (res1 rfl rfl) [4] ⟨by decide, rfl⟩ rfl
set_option maxHeartbeats 4000000 in
theorem xor_nil_f (key : List (BitVec 8)) (nonce : List (BitVec 8)) (ctr : BitVec 32) (A : Option Addr) (c : Nat) (w : World) (hO : HOK [.rd A 1 0 c []] w) (hk : key.length = 32) (hn : nonce.length = 12) : Calls Try.prog 69 [(.agg (key.map b8).toArray), (.agg (nonce.map b8).toArray), (b32 ctr), (.slice A 0 c)].toArray w (Ret (T := Option Addr × Nat) [] w (fun ⟨B, d⟩ => True) (fun ⟨B, d⟩ => (.slice B 0 d)) (fun ⟨B, d⟩ => [.row (.slice B 0 d) 5 1 0 []])) := by
 have hF : Wid Fence.wide := wid_wide
 refine enter_m (c := _) Try.func69 rfl [] _ [.rd A 1 0 c []] (by rw [Try.ntmps69]; rfl) (own_rds hO rfl) ?_
 rw [Try.ntmps69]
 refine T_re [(0, (.agg (key.map b8).toArray)), (1, (.agg (nonce.map b8).toArray)), (2, (b32 ctr)), (3, (.slice A 0 c))] (sc rfl (sc rfl (sc rfl (sc rfl sn)))) ?_
 refine T_he [0] [.rd A 1 0 c []] ⟨by decide, rfl⟩ ?_
 refine Tsr hF rfl ?_
 refine L_op rfl (op_box (zs := (key.map b8)) rfl rfl rfl rfl rfl (fun g1 => ?_))
 refine L_op rfl (op_box (zs := (nonce.map b8)) rfl rfl rfl rfl rfl (fun g2 => ?_))
 refine L_op rfl (op_box (zs := [(.slice A 0 c)]) rfl rfl rfl rfl rfl (fun g3 => ?_))
 refine la rfl rfl rfl rfl rfl ?_
 refine L_nil ?_
 refine T_scope rfl ?_
 refine Tsr hF rfl ?_
 refine lq rfl (ld_blk 0 rfl rfl Try.underlying23 rfl rfl rfl) rfl rfl ?_
 refine lo rfl (pr_len_sl Try.underlying23 rfl rfl) rfl rfl ?_
 refine L_op rfl (op_make (z := (b8 (0#8))) (n := 0) (c := 0) Try.underlying23 (bytes := 1) kr rfl sd sd sd rfl rfl rfl rfl rfl (fun g4 => ?_))
 refine T_as 0 _ (.blk g4 5 []) rfl rfl ?_
 refine L_op rfl (op_alloc (z := (.slice none 0 0)) (zs := [(.slice none 0 0)]) kr rfl rfl rfl rfl (fun g5 => ?_))
 refine L_op rfl (op_store (vs := [(.slice (some ⟨g4, 0, none⟩) 0 0)]) (cs' := [(.slice (some ⟨g4, 0, none⟩) 0 0)]) 0 rfl rfl kr (one_one rfl) (by first | decide | simp | exact Nat.le_refl _) rfl rfl rfl rfl rfl ?_)
 refine L_nil ?_
 refine T_seq ?_
 refine Tsr hF rfl ?_
 refine lq rfl (ld_blk 2 rfl rfl Try.underlying23 rfl rfl rfl) rfl rfl ?_
 refine lo rfl (pr_len_sl Try.underlying23 rfl rfl) rfl rfl ?_
 refine lo rfl (pr_cmp (bo := .eql) (nc_eq (a := 0) (b := 0)) rfl rfl rfl rfl) rfl rfl ?_
 refine L_nil ?_
 refine T_cond_t rfl ?_
 refine Tsr hF rfl ?_
 refine lq rfl (ld_blk 0 rfl rfl Try.underlying23 rfl rfl rfl) rfl rfl ?_
 refine la rfl rfl rfl rfl rfl ?_
 refine L_nil ?_
 refine T_ret ?_
 refine T_rowb 1 (zs := []) 1 0 0 rfl sd sd rfl (rfl) ?_
 exact T_finM0 (some ⟨g4, 0, none⟩, 0) (by first | trivial | omega | (simp; done)) (res1 rfl rfl) [0] ⟨by decide, rfl⟩ rfl
theorem xor_f (key : List (BitVec 8)) (nonce : List (BitVec 8)) (ctr : BitVec 32) (xs : List (BitVec 8)) (A : Option Addr) (n : Nat) (c : Nat) (w : World) (hO : HOK [.rd A 1 n c (xs.map b8)] w) (hk : key.length = 32) (hn : nonce.length = 12) (hx : xs.length = n) (hn9 : n ≤ 100000000) : Calls Try.prog 69 [(.agg (key.map b8).toArray), (.agg (nonce.map b8).toArray), (b32 ctr), (.slice A n c)].toArray w (Ret (T := Option Addr × Nat) [] w (fun ⟨B, d⟩ => True) (fun ⟨B, d⟩ => (.slice B n d)) (fun ⟨B, d⟩ => [.row (.slice B n d) 5 1 n ((cxor key nonce ctr xs).map b8)])) := by
  by_cases h : 0 < n
  · exact xor_pos_f key nonce ctr xs A n c w hO hk hn hx hn9 h
  · obtain rfl : n = 0 := by omega
    obtain rfl : xs = [] := List.eq_nil_of_length_eq_zero hx
    have e : cxor key nonce ctr [] = [] := List.eq_nil_of_length_eq_zero (cxor_len key nonce ctr [])
    rw [e]
    exact xor_nil_f key nonce ctr A c w hO hk hn

end Go.Proofs.Ytlplpmkdebemnaa
namespace Go.Proofs.Ytlplpmkdebemnaa.CtPure
def less (a b : BitVec 64) : BitVec 64 := (~~~a &&& b ||| (~~~a ||| b) &&& a - b) >>> 63
def same (a b : BitVec 64) : BitVec 64 := (a ^^^ b ||| -(a ^^^ b)) >>> 63 ^^^ 1#64
def pick (c a b : BitVec 64) : BitVec 64 := a &&& -(c &&& 1#64) ||| b &&& ~~~(-(c &&& 1#64))
def below (a b : BitVec 64) : BitVec 64 := less (a ^^^ 9223372036854775808#64) (b ^^^ 9223372036854775808#64)

theorem shr63 (x : BitVec 64) : x >>> 63 = if x.msb then 1#64 else 0#64 := by
  apply BitVec.eq_of_toNat_eq
  rw [BitVec.toNat_ushiftRight, Nat.shiftRight_eq_div_pow]
  have := x.isLt
  have hm := BitVec.msb_eq_decide x
  by_cases h : x.msb = true
  · rw [if_pos h]; rw [h] at hm; simp at hm; simp; omega
  · rw [if_neg h]; simp at h; rw [h] at hm; simp at hm; simp; omega
theorem less_eq (a b : BitVec 64) : less a b = if a < b then 1#64 else 0#64 := by
  unfold less
  rw [shr63]
  congr 1
  simp only [BitVec.msb_or, BitVec.msb_and, BitVec.msb_not, eq_iff_iff]
  rw [BitVec.msb_eq_decide, BitVec.msb_eq_decide, BitVec.msb_eq_decide, BitVec.toNat_sub, BitVec.lt_def]
  have ha := a.isLt
  have hb := b.isLt
  simp only [Bool.or_eq_true, Bool.and_eq_true, Bool.not_eq_true', decide_eq_false_iff_not, decide_eq_true_eq]
  omega
theorem same_eq (a b : BitVec 64) : same a b = if a = b then 1#64 else 0#64 := by
  unfold same
  rw [shr63]
  by_cases h : a = b
  · subst h; simp
  · rw [if_neg h]
    have hx : a ^^^ b ≠ 0#64 := by
      intro e
      exact h (by simpa using BitVec.xor_eq_zero_iff.1 e)
    have hm : (a ^^^ b ||| -(a ^^^ b)).msb = true := by
      generalize a ^^^ b = x at hx
      rw [BitVec.msb_or, BitVec.msb_eq_decide, BitVec.msb_eq_decide, BitVec.toNat_neg]
      have := x.isLt
      have h0 : x.toNat ≠ 0 := fun e => hx (BitVec.eq_of_toNat_eq (by simpa using e))
      simp only [Bool.or_eq_true, decide_eq_true_eq]
      omega
    rw [if_pos hm]; rfl
theorem pick_eq (c a b : BitVec 64) : pick c a b = if c &&& 1#64 = 1#64 then a else b := by
  unfold pick
  have h : c &&& 1#64 = 0#64 ∨ c &&& 1#64 = 1#64 := by
    have h1 : (c &&& 1#64).toNat < 2 := by
      rw [BitVec.toNat_and]
      exact Nat.lt_of_le_of_lt Nat.and_le_right (by decide)
    have h2 : (c &&& 1#64).toNat = 0 ∨ (c &&& 1#64).toNat = 1 := by omega
    rcases h2 with h2 | h2
    · exact .inl (BitVec.eq_of_toNat_eq h2)
    · exact .inr (BitVec.eq_of_toNat_eq h2)
  rcases h with h | h
  · rw [h]; simp; exact BitVec.and_allOnes
  · rw [h]; simp; exact BitVec.and_allOnes
theorem add_or_xor (x t : BitVec 64) (h : x &&& t = 0#64) : x ^^^ t = x + t := by
  rw [BitVec.add_eq_or_of_and_eq_zero x t h]
  apply BitVec.eq_of_getLsbD_eq
  intro i hi
  have h1 : (x &&& t).getLsbD i = false := by rw [h]; simp
  rw [BitVec.getLsbD_and] at h1
  rw [BitVec.getLsbD_xor, BitVec.getLsbD_or]
  cases hx : x.getLsbD i <;> cases ht : t.getLsbD i <;> simp_all
theorem turn_add (x : BitVec 64) : x ^^^ 9223372036854775808#64 = x + 9223372036854775808#64 := by
  by_cases h : x &&& 9223372036854775808#64 = 0#64
  · exact add_or_xor x _ h
  · have h2 : (x ^^^ 9223372036854775808#64) &&& 9223372036854775808#64 = 0#64 := by
      rw [show 9223372036854775808#64 = BitVec.twoPow 64 63 from rfl] at h ⊢
      rw [BitVec.and_twoPow] at h ⊢
      rw [BitVec.getLsbD_xor]
      have hx : x.getLsbD 63 = true := by
        cases hx : x.getLsbD 63
        · rw [hx] at h; simp at h
        · rfl
      rw [hx]; decide
    have h3 := add_or_xor _ _ h2
    have h4 : x = (x ^^^ 9223372036854775808#64) + 9223372036854775808#64 := by
      rw [← h3, BitVec.xor_assoc]; simp
    have h5 : x + 9223372036854775808#64 = (x ^^^ 9223372036854775808#64) + 9223372036854775808#64 + 9223372036854775808#64 := by rw [← h4]
    rw [h5, BitVec.add_assoc]; simp
theorem turn_lt (a b : BitVec 64) : (a ^^^ 9223372036854775808#64 < b ^^^ 9223372036854775808#64) ↔ a.slt b = true := by
  rw [turn_add, turn_add, BitVec.lt_def, BitVec.toNat_add, BitVec.toNat_add, BitVec.slt, decide_eq_true_eq, BitVec.toInt_eq_toNat_cond, BitVec.toInt_eq_toNat_cond]
  have ha := a.isLt
  have hb := b.isLt
  simp only [BitVec.toNat_ofNat]
  split <;> split <;> omega
theorem below_eq (a b : BitVec 64) : below a b = if a.slt b then 1#64 else 0#64 := by
  unfold below
  rw [less_eq]
  congr 1
  simp [turn_lt]
end Go.Proofs.Ytlplpmkdebemnaa.CtPure
namespace Go.Proofs.Ytlplpmkdebemnaa
set_option linter.unusedVariables false
set_option linter.unusedSimpArgs false
open Bv Fw
/-- Zeros up to a multiple of sixteen bytes. -/
def z16 (xs : List (BitVec 8)) : List (BitVec 8) := List.replicate ((16 - xs.length % 16) % 16) 0#8
theorem z16_def (xs : List (BitVec 8)) (n : Nat) (h : xs.length = n) : List.replicate ((16 - n % 16) % 16) 0#8 = z16 xs := by subst h; rfl
def lens8 (a c : List (BitVec 8)) : List (BitVec 8) := lowb (BitVec.ofNat 64 a.length) 8 ++ lowb (BitVec.ofNat 64 c.length) 8
/-- What is tagged, part by part. -/
def pdc (a c : List (BitVec 8)) : Nat → List (BitVec 8)
  | 0 => a
  | 1 => z16 a
  | 2 => c
  | 3 => z16 c
  | _ => lens8 a c
def pdcat (a c : List (BitVec 8)) : Nat → List (BitVec 8)
  | 0 => []
  | k + 1 => pdcat a c k ++ pdc a c k
theorem pdcat_zero (a c : List (BitVec 8)) : pdcat a c 0 = [] := rfl
theorem pd_next {Q : List Pt} {a c : List (BitVec 8)} {B : Option Addr} {m d k : Nat} (h : catp Q = pdcat a c k) : catp (Q ++ [Pt.mk B m d (pdc a c k)]) = pdcat a c (k + 1) := by
  rw [pdcat, ← h]; simp [catp]
theorem pdc0 (a c : List (BitVec 8)) : pdc a c 0 = a := rfl
theorem pdc1 (a c : List (BitVec 8)) (n : Nat) (h : a.length = n) : pdc a c 1 = List.replicate ((16 - n % 16) % 16) 0#8 := by subst h; rfl
theorem pdc2 (a c : List (BitVec 8)) : pdc a c 2 = c := rfl
theorem pdc3 (a c : List (BitVec 8)) (n : Nat) (h : c.length = n) : pdc a c 3 = List.replicate ((16 - n % 16) % 16) 0#8 := by subst h; rfl
theorem pdc4 (a c : List (BitVec 8)) (n m : Nat) (h : a.length = n) (h2 : c.length = m) : pdc a c 4 = ([] ++ lowb (BitVec.ofNat 64 n) 8) ++ lowb (BitVec.ofNat 64 m) 8 := by subst h; subst h2; rfl
def atext (a c : List (BitVec 8)) : List (BitVec 8) := ((a ++ z16 a) ++ (c ++ z16 c)) ++ lens8 a c
theorem atext_def (a c : List (BitVec 8)) : ((a ++ z16 a) ++ (c ++ z16 c)) ++ lens8 a c = atext a c := rfl
theorem pdcat_all (a c : List (BitVec 8)) : pdcat a c 5 = atext a c := by
  have e : pdcat a c 5 = ((((([] ++ a) ++ z16 a) ++ c) ++ z16 c) ++ lens8 a c) := rfl
  rw [e]; unfold atext; simp
theorem z16_le (xs : List (BitVec 8)) : (z16 xs).length ≤ 15 := by unfold z16; rw [List.length_replicate]; omega
theorem lens8_len (a c : List (BitVec 8)) : (lens8 a c).length = 16 := by unfold lens8; rw [List.length_append, lowb_len, lowb_len]
theorem atext_le (a c : List (BitVec 8)) : (atext a c).length ≤ a.length + c.length + 46 := by
  unfold atext
  have h1 := z16_le a
  have h2 := z16_le c
  simp only [List.length_append, lens8_len]
  omega
/-- The tag of what stands beside and of what was turned. -/
def atag (key nonce a c : List (BitVec 8)) : List (BitVec 8) := ptag (List.take 32 (cblock key 0#32 nonce)) (atext a c)
theorem atag_def (key nonce a c : List (BitVec 8)) : ptag (List.take 32 (cblock key 0#32 nonce)) (atext a c) = atag key nonce a c := rfl
theorem atag_len (key nonce a c : List (BitVec 8)) : (atag key nonce a c).length = 16 := ptag_len _ _
/-- Sealed bytes. -/
def aseal (key nonce a p : List (BitVec 8)) : List (BitVec 8) := cxor key nonce 1#32 p ++ atag key nonce a (cxor key nonce 1#32 p)
theorem aseal_def (key nonce a p : List (BitVec 8)) : cxor key nonce 1#32 p ++ atag key nonce a (cxor key nonce 1#32 p) = aseal key nonce a p := rfl
theorem aseal_len (key nonce a p : List (BitVec 8)) : (aseal key nonce a p).length = p.length + 16 := by
  unfold aseal; rw [List.length_append, cxor_len, atag_len]
/-- Is the tag right? -/
def agood (key nonce a s : List (BitVec 8)) : Prop := atag key nonce a (List.take (s.length - 16) s) = List.drop (s.length - 16) s
instance (key nonce a s : List (BitVec 8)) : Decidable (agood key nonce a s) := by unfold agood; exact inferInstance
theorem agood_iff (key nonce a s : List (BitVec 8)) (n : Nat) (h : s.length = n) : agood key nonce a s ↔ atag key nonce a (List.take (n - 16) s) = List.drop (n - 16) s := by subst h; exact Iff.rfl
def aplain (key nonce s : List (BitVec 8)) : List (BitVec 8) := cxor key nonce 1#32 (List.take (s.length - 16) s)
theorem aplain_def (key nonce s : List (BitVec 8)) (n : Nat) (h : s.length = n) : cxor key nonce 1#32 (List.take (n - 16) s) = aplain key nonce s := by subst h; rfl
theorem aplain_len (key nonce s : List (BitVec 8)) : (aplain key nonce s).length = s.length - 16 := by
  unfold aplain; rw [cxor_len, List.length_take]; omega
theorem aseal_take (key nonce a p : List (BitVec 8)) : List.take ((aseal key nonce a p).length - 16) (aseal key nonce a p) = cxor key nonce 1#32 p := by
  rw [aseal_len, Nat.add_sub_cancel]; unfold aseal
  rw [List.take_append_of_le_length (by rw [cxor_len]; omega), List.take_of_length_le (by rw [cxor_len]; omega)]
theorem aseal_drop (key nonce a p : List (BitVec 8)) : List.drop ((aseal key nonce a p).length - 16) (aseal key nonce a p) = atag key nonce a (cxor key nonce 1#32 p) := by
  rw [aseal_len, Nat.add_sub_cancel]; unfold aseal
  rw [List.drop_append_of_le_length (by rw [cxor_len]; omega), List.drop_of_length_le (by rw [cxor_len]; omega), List.nil_append]
/-- What is sealed is opened. -/
theorem agood_seal (key nonce a p : List (BitVec 8)) : agood key nonce a (aseal key nonce a p) := by
  unfold agood; rw [aseal_take, aseal_drop]
theorem aplain_seal (key nonce a p : List (BitVec 8)) : aplain key nonce (aseal key nonce a p) = p := by
  unfold aplain; rw [aseal_take, cxor_cxor]
/-! Texts held against each other without branches. -/
def orx (xs ys : List (BitVec 8)) : Nat → BitVec 8
  | 0 => 0#8
  | k + 1 => orx xs ys k ||| (ath xs k ^^^ ath ys k)
theorem orx_zero (xs ys : List (BitVec 8)) : orx xs ys 0 = 0#8 := rfl
theorem orx_succ (xs ys : List (BitVec 8)) (k : Nat) : orx xs ys (k + 1) = orx xs ys k ||| (ath xs k ^^^ ath ys k) := rfl
theorem orx_iff (xs ys : List (BitVec 8)) : ∀ k, orx xs ys k = 0#8 ↔ ∀ j, j < k → ath xs j = ath ys j
  | 0 => ⟨fun _ j hj => by omega, fun _ => rfl⟩
  | k + 1 => by
    rw [orx, BitVec.or_eq_zero_iff, orx_iff xs ys k, BitVec.xor_eq_zero_iff]
    refine ⟨fun ⟨h1, h2⟩ j hj => ?_, fun h => ⟨fun j hj => h j (by omega), h k (by omega)⟩⟩
    by_cases e : j = k
    · subst e; exact h2
    · exact h1 j (by omega)
def eqw (xs ys : List (BitVec 8)) : BitVec 64 := if xs = ys then 1#64 else 0#64
theorem eqw_of (xs ys : List (BitVec 8)) (n : Nat) (hx : xs.length = n) (hy : ys.length = n) : CtPure.same ((orx xs ys n).setWidth 64) 0#64 = eqw xs ys := by
  rw [CtPure.same_eq]
  unfold eqw
  have h1 : ((orx xs ys n).setWidth 64 = 0#64) ↔ xs = ys := by
    have h2 : ((orx xs ys n).setWidth 64 = 0#64) ↔ orx xs ys n = 0#8 := by
      constructor
      · intro h
        apply BitVec.eq_of_toNat_eq
        have := congrArg BitVec.toNat h
        rw [BitVec.toNat_setWidth] at this
        have hl := (orx xs ys n).isLt
        have h0 : (0#64).toNat = 0 := rfl
        have h0' : (0#8).toNat = 0 := rfl
        rw [h0] at this
        rw [h0']
        omega
      · intro h; rw [h]; rfl
    rw [h2, orx_iff]
    exact ⟨fun h => ext_ath (by omega) (fun j hj => h j (by omega)), fun h j _ => by rw [h]⟩
  by_cases h : xs = ys
  · rw [if_pos h, if_pos (h1.2 h)]
  · rw [if_neg h, if_neg (fun e => h (h1.1 e))]
theorem eqw_yes {xs ys : List (BitVec 8)} (h : xs = ys) : (eqw xs ys == 0#64) = false := by unfold eqw; rw [if_pos h]; rfl
theorem eqw_no {xs ys : List (BitVec 8)} (h : ¬ xs = ys) : (eqw xs ys == 0#64) = true := by unfold eqw; rw [if_neg h]; rfl
attribute [irreducible] z16 lens8 pdc pdcat atext atag aseal agood aplain orx eqw
end Go.Proofs.Ytlplpmkdebemnaa
namespace Go.Proofs.Ytlplpmkdebemnaa
set_option linter.unusedVariables false
set_option linter.unusedSimpArgs false
set_option linter.unnecessarySimpa false
set_option maxRecDepth 100000
open Go.RowKit Bv Fw

set_option maxHeartbeats 4000000 in
theorem ctsame_f (x : BitVec 64) (y : BitVec 64) (w : World) (hO : HOK [] w)  : Calls Try.prog 83 [(b64 x), (b64 y)].toArray w (Ret (T := Unit) [] w (fun _ => True) (fun _ => (b64 (CtPure.same x y))) (fun _ => [])) := by
 have hF : Wid Fence.wide := wid_wide
 refine enter (c := _) Try.func83 rfl [] _ [] (by rw [Try.ntmps83]; rfl) (own_rds hO rfl) ?_
 rw [Try.ntmps83]
 refine T_re [(0, (b64 x)), (1, (b64 y))] (sc rfl (sc rfl sn)) ?_
 refine T_he [] [] ⟨by decide, rfl⟩ ?_
 refine Tsr hF rfl ?_
 refine la rfl rfl rfl rfl rfl ?_
 refine L_nil ?_
 refine Tsr hF rfl ?_
 refine lm rfl rfl rfl rfl rfl ?_
 refine lm rfl rfl rfl rfl rfl ?_
 refine lo rfl (pr_xor (ib_xor64 _ _) rfl rfl rfl) rfl rfl ?_
 refine la rfl rfl rfl rfl rfl ?_
 refine L_nil ?_
 refine Tsr hF rfl ?_
 refine lm rfl rfl rfl rfl rfl ?_
 refine lm rfl rfl rfl rfl rfl ?_
 refine lo rfl (pr_un (un_neg64 _) rfl rfl) rfl rfl ?_
 refine lo rfl (pr_or (ib_or64 _ _) rfl rfl rfl) rfl rfl ?_
 refine lo rfl (pr_shift (sh_shr64 ((x ^^^ y) ||| (-(x ^^^ y))) _ 63) rfl rfl rfl rfl) rfl rfl ?_
 refine lo rfl (pr_xor (ib_xor64 _ (1#64)) rfl rfl rfl) rfl rfl ?_
 refine la rfl rfl rfl rfl rfl ?_
 refine L_nil ?_
 refine T_ret ?_
 refine T_slot 4 (b64 ((((x ^^^ y) ||| (-(x ^^^ y))) >>> 63) ^^^ 1#64)) (b64 (CtPure.same x y)) rfl (by rfl) ?_
 exact T_fin () (by first | trivial | omega | (simp; done)) (res1 rfl rfl) [] ⟨by decide, rfl⟩ rfl
set_option maxHeartbeats 4000000 in
theorem ctequal_f (xs : List (BitVec 8)) (A : Option Addr) (n : Nat) (c : Nat) (ys : List (BitVec 8)) (B : Option Addr) (d : Nat) (w : World) (hO : HOK [.rd A 1 n c (xs.map b8), .rd B 1 n d (ys.map b8)] w) (hx : xs.length = n) (hy : ys.length = n) (hn : n ≤ 100000000) : Calls Try.prog 72 [(.slice A n c), (.slice B n d)].toArray w (Ret (T := Unit) [] w (fun _ => True) (fun _ => (b64 (eqw xs ys))) (fun _ => [])) := by
 have hF : Wid Fence.wide := wid_wide
 refine enter (c := _) Try.func72 rfl [] _ [.rd A 1 n c (xs.map b8), .rd B 1 n d (ys.map b8)] (by rw [Try.ntmps72]; rfl) (own_rds hO rfl) ?_
 rw [Try.ntmps72]
 refine T_re [(0, (.slice A n c)), (1, (.slice B n d))] (sc rfl (sc rfl sn)) ?_
 refine T_he [0, 1] [.rd A 1 n c (xs.map b8), .rd B 1 n d (ys.map b8)] ⟨by decide, rfl⟩ ?_
 refine Tsr hF rfl ?_
 refine la rfl rfl rfl rfl rfl ?_
 refine L_nil ?_
 refine T_seq ?_
 refine Tsr hF rfl ?_
 refine lm rfl rfl rfl rfl rfl ?_
 refine lo rfl (pr_len_sl Try.underlying23 rfl rfl) rfl rfl ?_
 refine lm rfl rfl rfl rfl rfl ?_
 refine lo rfl (pr_len_sl Try.underlying23 rfl rfl) rfl rfl ?_
 refine lo rfl (pr_cmp (bo := .neq) (nc_ne (a := n) (b := n)) rfl rfl rfl rfl) rfl rfl ?_
 refine L_nil ?_
 refine T_cond_no (t := (n != n)) rfl (by simp) ?_
 refine T_skip ?_
 refine Tsr hF rfl ?_
 refine la rfl rfl rfl rfl rfl ?_
 refine L_nil ?_
 refine T_seq ?_
 refine Tsr hF rfl ?_
 refine lm rfl rfl rfl rfl rfl ?_
 refine lo rfl (pr_len_sl Try.underlying23 rfl rfl) rfl rfl ?_
 refine lm rfl rfl rfl rfl rfl ?_
 refine L_nil ?_
 refine T_block ?_
 refine T_slot 5 (b8 (0#8)) (b8 (orx xs ys 0)) rfl (by rw [orx_zero]) ?_
 refine T_loop (T := Nat) (fun i => i ≤ n) (fun i => [(0, (.slice A n c)), (1, (.slice B n d)), (5, (b8 (orx xs ys i))), (13, (.int .i64 ((n : Nat) : Int))), (14, (.int .i64 ((i : Nat) : Int)))]) (fun i => [.rd A 1 n c (xs.map b8), .rd B 1 n d (ys.map b8)]) (fun i => n - i) 0 (by first | trivial | ((try dsimp only); first | omega | (refine ⟨?_, ?_⟩ <;> omega) | (refine ⟨?_, ?_, ?_⟩ <;> omega) | (simp; done) | (simp; omega))) (sc rfl (sc rfl (sc rfl (sc rfl (sc rfl sn))))) [0, 1] ⟨by decide, rfl⟩ ?_
 rintro i hp
 have hp : i ≤ n := hp
 refine T_re [(0, (.slice A n c)), (1, (.slice B n d)), (5, (b8 (orx xs ys i))), (13, (.int .i64 ((n : Nat) : Int))), (14, (.int .i64 ((i : Nat) : Int)))] (sc rfl (sc rfl (sc rfl (sc rfl (sc rfl sn))))) ?_
 refine T_he [0, 1] [.rd A 1 n c (xs.map b8), .rd B 1 n d (ys.map b8)] ⟨by decide, rfl⟩ ?_
 refine Tsr hF rfl ?_
 refine lo rfl (pr_cmp (bo := .lss) (nc_lt (a := i) (b := n)) rfl rfl rfl rfl) rfl rfl ?_
 refine L_nil ?_
 refine T_seq ?_
 refine T_cond (decide (i < n)) rfl (fun hc_1 => ?_) (fun hc_1 => ?_)
 ·
  have hc_1 := of_decide_eq_true hc_1
  refine T_skip ?_
  refine T_seq ?_
  refine T_block ?_
  refine Tsr hF rfl ?_
  refine lm rfl rfl rfl rfl rfl ?_
  refine la rfl rfl rfl rfl rfl ?_
  refine L_nil ?_
  refine T_regD [.rd A 1 n c (xs.map b8), .rd B 1 n d (ys.map b8)] 12 12 #[false, false, false, false, false, false, false, false, false, false, false, false] hF kr kr ?_
  refine D_pure (i := 0) [0, 1] rfl kr rfl (pr_move rfl rfl) (.inr rfl) rfl rfl ?_
  refine D_pure (i := 1) [0, 1] rfl kr rfl (pr_move rfl rfl) (.inr rfl) rfl rfl ?_
  refine D_pure (i := 2) [0, 1] rfl kr rfl (pr_move rfl rfl) (.inr rfl) rfl rfl ?_
  refine D_pure (i := 3) [0, 1] rfl kr rfl (pr_ixs1 (j := i) (src_none (src_rd 0 rfl)) sd Try.underlying23 kr rfl rfl rfl) (.inr rfl) rfl rfl ?_
  refine D_pure (i := 5) [0, 1] rfl kr rfl (pr_move rfl rfl) (.inr rfl) rfl rfl ?_
  refine D_pure (i := 6) [0, 1] rfl kr rfl (pr_move rfl rfl) (.inr rfl) rfl rfl ?_
  refine D_pure (i := 7) [0, 1] rfl kr rfl (pr_ixs1 (j := i) (src_none (src_rd 1 rfl)) sd Try.underlying23 kr rfl rfl rfl) (.inr rfl) rfl rfl ?_
  refine D_take (i := 4) [0, 1] rfl kr rfl (ld_src (m := i) (src_rd 0 rfl) (get8 sd) Try.underlying5 rfl rfl rfl) rfl rfl rfl ?_
  refine D_take (i := 8) [0, 1] rfl kr rfl (ld_src (m := i) (src_rd 1 rfl) (get8 sd) Try.underlying5 rfl rfl rfl) rfl rfl rfl ?_
  refine D_pure (i := 9) [0, 1] rfl kr rfl (pr_xor (ib_xor8 _ _) rfl rfl rfl) (.inr rfl) rfl rfl ?_
  refine D_pure (i := 10) [0, 1] rfl kr rfl (pr_or (ib_or8 _ _) rfl rfl rfl) (.inr rfl) rfl rfl ?_
  refine D_pure (i := 11) [0, 1] rfl kr rfl (pr_assign rfl rfl) (.inr rfl) rfl rfl ?_
  refine D_done kr ?_
  refine T_reg hF rfl ?_
  refine lo rfl (pr_add (na_i64 (a := i) (b := 1) sd) rfl rfl rfl) rfl rfl ?_
  refine lm rfl rfl rfl rfl rfl ?_
  refine L_nil ?_
  refine T_slot 5 (b8 ((orx xs ys i) ||| ((ath xs i) ^^^ (ath ys i)))) (b8 (orx xs ys (i + 1))) rfl (by rw [orx_succ]) ?_
  exact T_again (i + 1) (by first | trivial | ((try dsimp only); first | omega | (refine ⟨?_, ?_⟩ <;> omega) | (refine ⟨?_, ?_, ?_⟩ <;> omega) | (simp; done) | (simp; omega))) (by first | trivial | ((try dsimp only); first | omega | (refine ⟨?_, ?_⟩ <;> omega) | (refine ⟨?_, ?_, ?_⟩ <;> omega) | (simp; done) | (simp; omega))) (sc rfl (sc rfl (sc rfl (sc rfl (sc rfl sn))))) [0, 1] ⟨by decide, rfl⟩
 ·
  have hc_1 := of_decide_eq_false hc_1
  refine T_exit rfl ?_
  obtain rfl : n = i := by omega
  refine Tsr hF rfl ?_
  refine lm rfl rfl rfl rfl rfl ?_
  refine lo rfl (pr_cv (cv8_64 _) Try.underlying5 Try.underlying30 rfl rfl) rfl rfl ?_
  refine L_op rfl (op_cn (fun w hw => ctsame_f ((orx xs ys n).setWidth 64) (0#64) w (hok_nil w) ) (enters_of Try.func83 kr rfl) rfl rfl rfl rfl rfl (fun t2 q3 => ?_))
  refine la rfl rfl rfl rfl rfl ?_
  refine L_nil ?_
  refine T_ret ?_
  refine T_slot 4 (b64 (CtPure.same ((orx xs ys n).setWidth 64) (0#64))) (b64 (eqw xs ys)) rfl (by rw [eqw_of xs ys n hx hy]) ?_
  exact T_fin () (by first | trivial | omega | (simp; done)) (res1 rfl rfl) [] ⟨by decide, rfl⟩ rfl
set_option maxRecDepth 100000 in
set_option maxHeartbeats 4000000 in
theorem padded_seq (aad : List (BitVec 8)) (cs : List (BitVec 8)) (A1 : Option Addr) (n1 : Nat) (c1 : Nat) (A2 : Option Addr) (n2 : Nat) (c2 : Nat) (A : Option Addr) (g1 : Nat) (h1 : aad.length = n1) (h2 : cs.length = n2) (h3 : n1 ≤ 100000000) (h4 : n2 ≤ 100000000) : SeqC (Θ := Option Addr × Nat × Nat) Try.prog 89 [(.pointer (some ⟨g1, 0, none⟩))] [.rd (some ⟨g1, 0, none⟩) 1 1 1 [(.slice A 2 2)], .rd A 1 2 2 [(.slice A1 n1 c1), (.slice A2 n2 c2)], .rd A1 1 n1 c1 (aad.map b8), .rd A2 1 n2 c2 (cs.map b8)] 5 (fun k ⟨B, m, c⟩ => [(.slice B m c)]) (fun k ⟨B, m, c⟩ => [.rd B 1 m c ((pdc aad cs k).map b8)]) := by
 have hF : Wid Fence.wide := wid_wide
 refine enter_seq (c := _) Try.func89 rfl (by rw [Try.ntmps89]; rfl) rfl ?_
 intro l J Jx W O R hsJ hsX hy hend
 rw [Try.ntmps89]
 refine T_re [(0, (.func (.yield l) #[] #[])), (1, (.pointer (some ⟨g1, 0, none⟩)))] (sc rfl (sc rfl sn)) ?_
 refine T_he [0, 1, 2, 3, 4] [.inv W.heap.size O R (J 0 O R), .rd (some ⟨g1, 0, none⟩) 1 1 1 [(.slice A 2 2)], .rd A 1 2 2 [(.slice A1 n1 c1), (.slice A2 n2 c2)], .rd A1 1 n1 c1 (aad.map b8), .rd A2 1 n2 c2 (cs.map b8)] ⟨by decide, rfl⟩ ?_
 refine Tsr hF rfl ?_
 refine la rfl rfl rfl rfl rfl ?_
 refine L_nil ?_
 refine T_seq ?_
 refine Tsr hF rfl ?_
 refine lq rfl (ld_rdb (src_rd 1 rfl) rfl Try.underlying127 rfl rfl rfl) rfl rfl ?_
 refine lo rfl (pr_len_sl Try.underlying127 rfl rfl) rfl rfl ?_
 refine lm rfl rfl rfl rfl rfl ?_
 refine L_nil ?_
 refine T_block ?_
 refine T_rounds 3 ?_
 refine T_round ?_
 refine Tsr hF rfl ?_
 refine lo rfl (pr_cmp (bo := .lss) (nc_lt (a := 0) (b := 2)) rfl rfl rfl rfl) rfl rfl ?_
 refine L_nil ?_
 refine T_seq ?_
 refine T_cond_t rfl ?_
 refine T_skip ?_
 refine T_seq ?_
 refine T_block ?_
 refine Tsr hF rfl ?_
 refine lo rfl (pr_ixs1 (j := 0) (src_none (src_rd 2 rfl)) sd Try.underlying127 kr rfl rfl rfl) rfl rfl ?_
 refine lq rfl (ld_src (m := 0) (src_rd 2 rfl) rfl Try.underlying23 rfl rfl rfl) rfl rfl ?_
 refine la rfl rfl rfl rfl rfl ?_
 refine L_nil ?_
 refine Tsr hF rfl ?_
 refine lm rfl rfl rfl rfl rfl ?_
 refine lm rfl rfl rfl rfl rfl ?_
 refine lo rfl (pr_len_sl Try.underlying23 rfl rfl) rfl rfl ?_
 refine lo rfl (pr_cv (ni_u64 (a := n1) sd) Try.underlying3 Try.underlying30 rfl rfl) rfl rfl ?_
 refine T_slot 15 _ (b64 (BitVec.ofNat 64 n1)) rfl (nat64 sd) ?_
 refine T_nilrow 5 1 ?_
 refine L_op rfl (op_c1 0 rfl (fun w hw => putLow_f [] (BitVec.ofNat 64 n1) 8 none 0 0 w (hw _ (List.mem_of_getElem? (i := 0) rfl)) sd sd) (enters_of Try.func60 kr rfl) rfl rfl rfl rfl rfl (fun t1 q2 => ?_))
 obtain ⟨B3, d4⟩ := t1
 refine la rfl rfl rfl rfl rfl ?_
 refine L_nil ?_
 refine T_seq ?_
 refine T_regI ?_
 refine LI_opP hF rfl rfl (op_pr (pr_move rfl rfl) rfl rfl ?_)
 refine LI_opP hF rfl rfl (op_pr (pr_move rfl rfl) rfl rfl ?_)
 refine T_as 4 _ (.rd A1 1 n1 c1 ((pdc aad cs 0).map b8)) rfl (by first | rw [pdc0] | rw [pdc1 aad cs n1 h1] | rw [pdc2] | rw [pdc3 aad cs n2 h2] | rw [pdc4 aad cs n1 n2 h1 h2]) ?_
 refine LI_op rfl (op_yield (k := 0) ((A1 : Option Addr), (n1 : Nat), (c1 : Nat)) hy sd hsJ hsX 2 rfl [0] rfl rfl rfl rfl rfl rfl rfl rfl rfl (fun _ => trivial) (fun O5 R6 => ?_) (fun O7 R8 => ?_))
 ·
  refine LI_opP hF rfl rfl (op_pr (pr_un (v := .bool false) rfl rfl rfl) rfl rfl ?_)
  refine LI_opP hF rfl rfl (op_pr (pr_move rfl rfl) rfl rfl ?_)
  refine LI_opP hF rfl rfl (op_pr (pr_move rfl rfl) rfl rfl ?_)
  refine LI_opP hF rfl rfl (op_pr (pr_move rfl rfl) rfl rfl ?_)
  refine LI_opP hF rfl rfl (op_pr (pr_len_sl Try.underlying23 rfl rfl) rfl rfl ?_)
  refine LI_opP hF rfl rfl (op_pr (pr_rem (a := n1) (b := 16) sd rfl rfl rfl) rfl rfl ?_)
  refine LI_opP hF rfl rfl (op_pr (pr_sub (ns_i64 (a := 16) (b := n1 % 16) sd sd) rfl rfl rfl) rfl rfl ?_)
  refine LI_opP hF rfl rfl (op_pr (pr_rem (a := 16 - (n1 % 16)) (b := 16) sd rfl rfl rfl) rfl rfl ?_)
  refine LI_opP hF rfl rfl (op_make (z := (b8 (0#8))) (n := (16 - (n1 % 16)) % 16) (c := (16 - (n1 % 16)) % 16) Try.underlying23 (bytes := 1) kr rfl sd sd sd rfl rfl rfl rfl rfl (fun g9 => ?_))
  refine T_as 0 _ (.blk g9 5 ((List.replicate ((16 - (n1 % 16)) % 16) 0#8).map b8)) rfl (by rw [List.map_replicate]) ?_
  refine T_oldb 0 (zs := ((List.replicate ((16 - (n1 % 16)) % 16) 0#8).map b8)) 0 1 ((16 - (n1 % 16)) % 16) ((16 - (n1 % 16)) % 16) rfl (by simp) (by rw [List.drop_zero, List.take_of_length_le (by simp)]) (Nat.le_refl _) (by omega) ?_
  refine T_tord 0 rfl ?_
  refine T_as 0 _ (.rd (some ⟨g9, 0, none⟩) 1 ((16 - (n1 % 16)) % 16) ((16 - (n1 % 16)) % 16) ((pdc aad cs 1).map b8)) rfl (by first | rw [pdc0] | rw [pdc1 aad cs n1 h1] | rw [pdc2] | rw [pdc3 aad cs n2 h2] | rw [pdc4 aad cs n1 n2 h1 h2]) ?_
  refine LI_op rfl (op_yield (k := 1) ((some ⟨g9, 0, none⟩ : Option Addr), ((16 - (n1 % 16)) % 16 : Nat), ((16 - (n1 % 16)) % 16 : Nat)) hy sd hsJ hsX 1 rfl [0] rfl rfl rfl rfl rfl rfl rfl rfl rfl (fun _ => trivial) (fun O10 R11 => ?_) (fun O12 R13 => ?_))
  ·
   refine LI_opP hF rfl rfl (op_pr (pr_un (v := .bool false) rfl rfl rfl) rfl rfl ?_)
   refine LI_opP hF rfl rfl (op_pr (pr_pick_f rfl rfl rfl) rfl rfl ?_)
   refine LI_nil ?_
   refine T_cond_f rfl ?_
   refine T_skip ?_
   refine T_reg hF rfl ?_
   refine lo rfl (pr_add (na_i64 (a := 0) (b := 1) sd) rfl rfl rfl) rfl rfl ?_
   refine lm rfl rfl rfl rfl rfl ?_
   refine L_nil ?_
   refine T_round ?_
   refine Tsr hF rfl ?_
   refine lo rfl (pr_cmp (bo := .lss) (nc_lt (a := 1) (b := 2)) rfl rfl rfl rfl) rfl rfl ?_
   refine L_nil ?_
   refine T_seq ?_
   refine T_cond_t rfl ?_
   refine T_skip ?_
   refine T_seq ?_
   refine T_block ?_
   refine Tsr hF rfl ?_
   refine lo rfl (pr_ixs1 (j := 1) (src_none (src_rd 5 rfl)) sd Try.underlying127 kr rfl rfl rfl) rfl rfl ?_
   refine lq rfl (ld_src (m := 1) (src_rd 5 rfl) rfl Try.underlying23 rfl rfl rfl) rfl rfl ?_
   refine la rfl rfl rfl rfl rfl ?_
   refine L_nil ?_
   refine Tsr hF rfl ?_
   refine lm rfl rfl rfl rfl rfl ?_
   refine lm rfl rfl rfl rfl rfl ?_
   refine lo rfl (pr_len_sl Try.underlying23 rfl rfl) rfl rfl ?_
   refine lo rfl (pr_cv (ni_u64 (a := n2) sd) Try.underlying3 Try.underlying30 rfl rfl) rfl rfl ?_
   refine T_slot 15 _ (b64 (BitVec.ofNat 64 n2)) rfl (nat64 sd) ?_
   refine L_op rfl (op_c1 3 rfl (fun w hw => putLow_f ([] ++ lowb (BitVec.ofNat 64 n1) 8) (BitVec.ofNat 64 n2) 8 B3 (0 + 8) d4 w (hw _ (List.mem_of_getElem? (i := 3) rfl)) sd sd) (enters_of Try.func60 kr rfl) rfl rfl rfl rfl rfl (fun t14 q15 => ?_))
   obtain ⟨B16, d17⟩ := t14
   refine la rfl rfl rfl rfl rfl ?_
   refine L_nil ?_
   refine T_seq ?_
   refine T_regI ?_
   refine LI_opP hF rfl rfl (op_pr (pr_move rfl rfl) rfl rfl ?_)
   refine LI_opP hF rfl rfl (op_pr (pr_move rfl rfl) rfl rfl ?_)
   refine T_as 6 _ (.rd A2 1 n2 c2 ((pdc aad cs 2).map b8)) rfl (by first | rw [pdc0] | rw [pdc1 aad cs n1 h1] | rw [pdc2] | rw [pdc3 aad cs n2 h2] | rw [pdc4 aad cs n1 n2 h1 h2]) ?_
   refine LI_op rfl (op_yield (k := 2) ((A2 : Option Addr), (n2 : Nat), (c2 : Nat)) hy sd hsJ hsX 2 rfl [0] rfl rfl rfl rfl rfl rfl rfl rfl rfl (fun _ => trivial) (fun O18 R19 => ?_) (fun O20 R21 => ?_))
   ·
    refine LI_opP hF rfl rfl (op_pr (pr_un (v := .bool false) rfl rfl rfl) rfl rfl ?_)
    refine LI_opP hF rfl rfl (op_pr (pr_move rfl rfl) rfl rfl ?_)
    refine LI_opP hF rfl rfl (op_pr (pr_move rfl rfl) rfl rfl ?_)
    refine LI_opP hF rfl rfl (op_pr (pr_move rfl rfl) rfl rfl ?_)
    refine LI_opP hF rfl rfl (op_pr (pr_len_sl Try.underlying23 rfl rfl) rfl rfl ?_)
    refine LI_opP hF rfl rfl (op_pr (pr_rem (a := n2) (b := 16) sd rfl rfl rfl) rfl rfl ?_)
    refine LI_opP hF rfl rfl (op_pr (pr_sub (ns_i64 (a := 16) (b := n2 % 16) sd sd) rfl rfl rfl) rfl rfl ?_)
    refine LI_opP hF rfl rfl (op_pr (pr_rem (a := 16 - (n2 % 16)) (b := 16) sd rfl rfl rfl) rfl rfl ?_)
    refine LI_opP hF rfl rfl (op_make (z := (b8 (0#8))) (n := (16 - (n2 % 16)) % 16) (c := (16 - (n2 % 16)) % 16) Try.underlying23 (bytes := 1) kr rfl sd sd sd rfl rfl rfl rfl rfl (fun g22 => ?_))
    refine T_as 0 _ (.blk g22 5 ((List.replicate ((16 - (n2 % 16)) % 16) 0#8).map b8)) rfl (by rw [List.map_replicate]) ?_
    refine T_oldb 0 (zs := ((List.replicate ((16 - (n2 % 16)) % 16) 0#8).map b8)) 0 1 ((16 - (n2 % 16)) % 16) ((16 - (n2 % 16)) % 16) rfl (by simp) (by rw [List.drop_zero, List.take_of_length_le (by simp)]) (Nat.le_refl _) (by omega) ?_
    refine T_tord 0 rfl ?_
    refine T_as 0 _ (.rd (some ⟨g22, 0, none⟩) 1 ((16 - (n2 % 16)) % 16) ((16 - (n2 % 16)) % 16) ((pdc aad cs 3).map b8)) rfl (by first | rw [pdc0] | rw [pdc1 aad cs n1 h1] | rw [pdc2] | rw [pdc3 aad cs n2 h2] | rw [pdc4 aad cs n1 n2 h1 h2]) ?_
    refine LI_op rfl (op_yield (k := 3) ((some ⟨g22, 0, none⟩ : Option Addr), ((16 - (n2 % 16)) % 16 : Nat), ((16 - (n2 % 16)) % 16 : Nat)) hy sd hsJ hsX 1 rfl [0] rfl rfl rfl rfl rfl rfl rfl rfl rfl (fun _ => trivial) (fun O23 R24 => ?_) (fun O25 R26 => ?_))
    ·
     refine LI_opP hF rfl rfl (op_pr (pr_un (v := .bool false) rfl rfl rfl) rfl rfl ?_)
     refine LI_opP hF rfl rfl (op_pr (pr_pick_f rfl rfl rfl) rfl rfl ?_)
     refine LI_nil ?_
     refine T_cond_f rfl ?_
     refine T_skip ?_
     refine T_reg hF rfl ?_
     refine lo rfl (pr_add (na_i64 (a := 1) (b := 1) sd) rfl rfl rfl) rfl rfl ?_
     refine lm rfl rfl rfl rfl rfl ?_
     refine L_nil ?_
     refine T_round ?_
     refine Tsr hF rfl ?_
     refine lo rfl (pr_cmp (bo := .lss) (nc_lt (a := 2) (b := 2)) rfl rfl rfl rfl) rfl rfl ?_
     refine L_nil ?_
     refine T_seq ?_
     refine T_cond_f rfl ?_
     refine T_exit rfl ?_
     refine T_regI ?_
     refine LI_opP hF rfl rfl (op_pr (pr_move rfl rfl) rfl rfl ?_)
     refine LI_opP hF rfl rfl (op_pr (pr_move rfl rfl) rfl rfl ?_)
     refine T_old 3 rfl ?_
     refine T_tord 0 rfl ?_
     refine T_as 0 _ (.rd B16 1 ((0 + 8) + 8) d17 ((pdc aad cs 4).map b8)) rfl (by first | rw [pdc0] | rw [pdc1 aad cs n1 h1] | rw [pdc2] | rw [pdc3 aad cs n2 h2] | rw [pdc4 aad cs n1 n2 h1 h2]) ?_
     refine LI_op rfl (op_yield (k := 4) ((B16 : Option Addr), ((0 + 8) + 8 : Nat), (d17 : Nat)) hy sd hsJ hsX 1 rfl [0] rfl rfl rfl rfl rfl rfl rfl rfl rfl (fun _ => trivial) (fun O27 R28 => ?_) (fun O29 R30 => ?_))
     ·
      refine LI_nil ?_
      exact T_finJ rfl rfl 0 rfl
     ·
      refine LI_nil ?_
      exact T_finX rfl rfl 0 rfl
    ·
     refine LI_opP hF rfl rfl (op_pr (pr_un (v := .bool true) rfl rfl rfl) rfl rfl ?_)
     refine LI_opP hF rfl rfl (op_pr (pr_pick_f rfl rfl rfl) rfl rfl ?_)
     refine LI_nil ?_
     refine T_cond_t rfl ?_
     refine T_ret ?_
     exact T_finX rfl rfl 0 rfl
   ·
    refine LI_opP hF rfl rfl (op_pr (pr_un (v := .bool true) rfl rfl rfl) rfl rfl ?_)
    refine LI_opP hF rfl rfl (op_pr (pr_move rfl rfl) rfl rfl ?_)
    refine LI_skip hF rfl rfl rfl ?_
    refine LI_skip hF rfl rfl rfl ?_
    refine LI_skip hF rfl rfl rfl ?_
    refine LI_skip hF rfl rfl rfl ?_
    refine LI_skip hF rfl rfl rfl ?_
    refine LI_skip hF rfl rfl rfl ?_
    refine LI_skip hF rfl rfl rfl ?_
    refine LI_skip hF rfl rfl rfl ?_
    refine LI_skip hF rfl rfl rfl ?_
    refine LI_opP hF rfl rfl (op_pr (pr_pick_t rfl rfl rfl) rfl rfl ?_)
    refine LI_nil ?_
    refine T_cond_t rfl ?_
    refine T_ret ?_
    exact T_finX rfl rfl 0 rfl
  ·
   refine LI_opP hF rfl rfl (op_pr (pr_un (v := .bool true) rfl rfl rfl) rfl rfl ?_)
   refine LI_opP hF rfl rfl (op_pr (pr_pick_f rfl rfl rfl) rfl rfl ?_)
   refine LI_nil ?_
   refine T_cond_t rfl ?_
   refine T_ret ?_
   exact T_finX rfl rfl 0 rfl
 ·
  refine LI_opP hF rfl rfl (op_pr (pr_un (v := .bool true) rfl rfl rfl) rfl rfl ?_)
  refine LI_opP hF rfl rfl (op_pr (pr_move rfl rfl) rfl rfl ?_)
  refine LI_skip hF rfl rfl rfl ?_
  refine LI_skip hF rfl rfl rfl ?_
  refine LI_skip hF rfl rfl rfl ?_
  refine LI_skip hF rfl rfl rfl ?_
  refine LI_skip hF rfl rfl rfl ?_
  refine LI_skip hF rfl rfl rfl ?_
  refine LI_skip hF rfl rfl rfl ?_
  refine LI_skip hF rfl rfl rfl ?_
  refine LI_skip hF rfl rfl rfl ?_
  refine LI_opP hF rfl rfl (op_pr (pr_pick_t rfl rfl rfl) rfl rfl ?_)
  refine LI_nil ?_
  refine T_cond_t rfl ?_
  refine T_ret ?_
  exact T_finX rfl rfl 0 rfl
set_option maxHeartbeats 4000000 in
theorem padded_f (A : Option Addr) (n : Nat) (c : Nat) (w : World) (hO : HOK [] w)  : Calls Try.prog 80 [(.slice A n c)].toArray w (Ret (T := Nat) [] w (fun g1 => True) (fun g1 => (.func (.func 89) #[] [(.pointer (some ⟨g1, 0, none⟩))].toArray)) (fun g1 => [.old (some ⟨g1, 0, none⟩) 1 1 1 [(.slice A n c)]])) := by
 have hF : Wid Fence.wide := wid_wide
 refine enter (c := _) Try.func80 rfl [] _ [] (by rw [Try.ntmps80]; rfl) (own_rds hO rfl) ?_
 rw [Try.ntmps80]
 refine T_re [(0, (.slice A n c))] (sc rfl sn) ?_
 refine T_he [] [] ⟨by decide, rfl⟩ ?_
 refine Tsr hF rfl ?_
 refine L_op rfl (op_box (zs := [(.slice A n c)]) rfl rfl rfl rfl rfl (fun g1 => ?_))
 refine la rfl rfl rfl rfl rfl ?_
 refine L_nil ?_
 refine Tsr hF rfl ?_
 refine lo rfl (pr_mkfn (us := []) (vs := [(.pointer (some ⟨g1, 0, none⟩))]) rfl rfl rfl) rfl rfl ?_
 refine la rfl rfl rfl rfl rfl ?_
 refine L_nil ?_
 refine T_ret ?_
 refine T_oldb 0 (zs := [(.slice A n c)]) 0 1 1 1 rfl rfl rfl sd sd ?_
 exact T_fin g1 (by first | trivial | omega | (simp; done)) (res1 rfl rfl) [0] ⟨by decide, rfl⟩ rfl
set_option maxRecDepth 100000 in
set_option maxHeartbeats 4000000 in
theorem atag_f (key : List (BitVec 8)) (nonce : List (BitVec 8)) (aad : List (BitVec 8)) (cs : List (BitVec 8)) (A1 : Option Addr) (n1 : Nat) (c1 : Nat) (A2 : Option Addr) (n2 : Nat) (c2 : Nat) (w : World) (hO : HOK [.rd A1 1 n1 c1 (aad.map b8), .rd A2 1 n2 c2 (cs.map b8)] w) (hk : key.length = 32) (hn : nonce.length = 12) (h1 : aad.length = n1) (h2 : cs.length = n2) (h3 : n1 ≤ 100000000) (h4 : n2 ≤ 100000000) : Calls Try.prog 70 [(.agg (key.map b8).toArray), (.agg (nonce.map b8).toArray), (.slice A1 n1 c1), (.slice A2 n2 c2)].toArray w (Ret (T := Unit) [] w (fun _ => True) (fun _ => (.agg ((atag key nonce aad cs).map b8).toArray)) (fun _ => [])) := by
 have hbl := cblock_len key 0#32 nonce
 have hal := atext_le aad cs
 have htl := atag_len key nonce aad cs
 have h32 : (List.take 32 (cblock key 0#32 nonce)).length = 32 := by rw [List.length_take, hbl]; rfl
 have hF : Wid Fence.wide := wid_wide
 refine enter_m (c := _) Try.func70 rfl [] _ [.rd A1 1 n1 c1 (aad.map b8), .rd A2 1 n2 c2 (cs.map b8)] (by rw [Try.ntmps70]; rfl) (own_rds hO rfl) ?_
 rw [Try.ntmps70]
 refine T_re [(0, (.agg (key.map b8).toArray)), (1, (.agg (nonce.map b8).toArray)), (2, (.slice A1 n1 c1)), (3, (.slice A2 n2 c2))] (sc rfl (sc rfl (sc rfl (sc rfl sn)))) ?_
 refine T_he [0, 1] [.rd A1 1 n1 c1 (aad.map b8), .rd A2 1 n2 c2 (cs.map b8)] ⟨by decide, rfl⟩ ?_
 refine Tsr hF rfl ?_
 refine L_op rfl (op_box (zs := (key.map b8)) rfl rfl rfl rfl rfl (fun g1 => ?_))
 refine L_op rfl (op_box (zs := (nonce.map b8)) rfl rfl rfl rfl rfl (fun g2 => ?_))
 refine L_op rfl (op_alloc (z := .agg ((List.replicate 16 0#8).map b8).toArray) (zs := ((List.replicate 16 0#8).map b8)) kr rfl rfl rfl rfl (fun g3 => ?_))
 refine L_nil ?_
 refine Tsr hF rfl ?_
 refine lq rfl (ld_agg (ds := (key.map b8)) 2 rfl agg_all Try.underlying50 rfl (fwz (n := 32) kr sd) rfl rfl) rfl rfl ?_
 refine lq rfl (ld_agg (ds := (nonce.map b8)) 1 rfl agg_all Try.underlying86 rfl (fwz (n := 12) kr sd) rfl rfl) rfl rfl ?_
 refine L_op rfl (op_cn (fun w hw => cblock_f key (0#32) nonce w (hok_nil w) (by first | assumption | exact sd) (by first | assumption | exact sd)) (enters_of Try.func79 kr rfl) rfl rfl rfl rfl rfl (fun t4 q5 => ?_))
 refine L_op rfl (op_alloc (z := .agg ((List.replicate 64 0#8).map b8).toArray) (zs := ((List.replicate 64 0#8).map b8)) kr rfl rfl rfl rfl (fun g6 => ?_))
 refine L_op rfl (op_sto (n := 64) (vs := ((cblock key (0#32) nonce).map b8)) 0 rfl rfl kr (all8_one _) kr sd rfl rfl rfl rfl ?_)
 refine L_nil ?_
 refine Tsr hF rfl ?_
 refine L_op rfl (op_alloc (z := (.slice none 0 0)) (zs := [(.slice none 0 0)]) kr rfl rfl rfl rfl (fun g7 => ?_))
 refine L_nil ?_
 refine T_seq ?_
 refine Tsr hF rfl ?_
 refine lm rfl rfl rfl rfl rfl ?_
 refine lm rfl rfl rfl rfl rfl ?_
 refine L_op rfl (op_bslice (e := 23) (zs := [(.slice A1 n1 c1), (.slice A2 n2 c2)]) (qs := [(0, (.slice A1 n1 c1)), (1, (.slice A2 n2 c2))]) (fun _ => by kernel_rfl) rfl rfl rfl rfl (fun g8 => ?_))
 refine T_oldb 0 (zs := [(.slice A1 n1 c1), (.slice A2 n2 c2)]) 0 1 2 2 rfl rfl rfl (Nat.le_refl _) (by omega) ?_
 refine T_tord 0 rfl ?_
 refine L_op rfl (op_cn (fun w hw => padded_f (some ⟨g8, 0, none⟩) 2 2 w (hok_nil w) ) (enters_of Try.func80 kr rfl) rfl rfl rfl rfl rfl (fun t9 q10 => ?_))
 obtain ⟨g1_11, eg1_11⟩ : ∃ x, x = t9 := ⟨_, rfl⟩
 subst eg1_11
 refine L_nil ?_
 refine T_block ?_
 refine T_tord 0 rfl ?_
 refine T_nilrow 23 1 ?_
 refine T_as 0 _ (.row (.slice none 0 0) 23 1 0 (([] : List Pt).map Pt.sl)) rfl rfl ?_
 refine T_allnil ?_
 refine T_range (Θ := Option Addr × Nat × Nat) (T := Option Addr × Nat × List Pt) (Tx := Unit) (cap := [(.pointer (some ⟨g1_11, 0, none⟩))]) (ps := [19]) (padded_seq aad cs A1 n1 c1 A2 n2 c2 (some ⟨g8, 0, none⟩) g1_11 sd sd sd sd) rfl (enters_of Try.func89 kr rfl) (fun k ⟨A1_, c1_, Q⟩ => Q.length = k ∧ catp Q = pdcat aad cs k) (fun k ⟨A1_, c1_, Q⟩ => [.all Q, .row (.slice A1_ k c1_) 23 1 k (Q.map Pt.sl), .rd (some ⟨g1_11, 0, none⟩) 1 1 1 [(.slice (some ⟨g8, 0, none⟩) 2 2)], .rd (some ⟨g8, 0, none⟩) 1 2 2 [(.slice A1 n1 c1), (.slice A2 n2 c2)], .blk g7 127 [(.slice A1_ k c1_)], .blk g6 125 ((cblock key (0#32) nonce).map b8), .blk g3 113 ((List.replicate 16 0#8).map b8), .blk g2 86 (nonce.map b8), .blk g1 50 (key.map b8), .rd A1 1 n1 c1 (aad.map b8), .rd A2 1 n2 c2 (cs.map b8)]) (fun _ => False) (fun _ => []) 0 (none, 0, []) (⟨rfl, by rw [pdcat_zero]; rfl⟩) [0, 1, 2, 3, 4, 5, 6, 7, 8, 9, 10] ⟨by decide, rfl⟩ [2, 3, 9, 10] rfl rfl (fun _ _ => rfl) (fun _ => rfl) (fun _ _ => rfl) (fun _ _ => rfl) rfl (fun _ => trivial) ?_ ?_ ?_
 ·
  intro C2 w2 lo2 rs2 l D m k t th rc hrec hk hp
  obtain ⟨A1_, c1_, Q⟩ := t
  obtain ⟨B, m, c⟩ := th
  have hp : Q.length = k ∧ catp Q = pdcat aad cs k := hp
  have hk : k < 5 := hk
  have hk5 : k ≤ 4 := by omega
  have hF : Wid (Fence.wide.inRound l) := wid_round l
  refine T_re [(10, (.pointer (some ⟨g7, 0, none⟩))), (19, (.slice B m c))] (sc rfl (sc rfl sn)) ?_
  refine T_he [0, 1, 2, 3, 4, 5, 6, 7, 8, 9, 10, 11, 12, 13] [.rd B 1 m c ((pdc aad cs k).map b8), .obj l (.loop rc), .obj D (.deferred (some [])), .all Q, .row (.slice A1_ k c1_) 23 1 k (Q.map Pt.sl), .rd (some ⟨g1_11, 0, none⟩) 1 1 1 [(.slice (some ⟨g8, 0, none⟩) 2 2)], .rd (some ⟨g8, 0, none⟩) 1 2 2 [(.slice A1 n1 c1), (.slice A2 n2 c2)], .blk g7 127 [(.slice A1_ k c1_)], .blk g6 125 ((cblock key (0#32) nonce).map b8), .blk g3 113 ((List.replicate 16 0#8).map b8), .blk g2 86 (nonce.map b8), .blk g1 50 (key.map b8), .rd A1 1 n1 c1 (aad.map b8), .rd A2 1 n2 c2 (cs.map b8)] ⟨by decide, rfl⟩ ?_
  refine T_reg hF rfl ?_
  refine la rfl rfl rfl rfl rfl ?_
  refine L_nil ?_
  refine T_begun 1 rfl hrec ?_
  refine T_block ?_
  refine T_reg hF rfl ?_
  refine lq rfl (ld_blk 7 rfl rfl Try.underlying127 rfl rfl rfl) rfl rfl ?_
  refine lm rfl rfl rfl rfl rfl ?_
  refine L_op rfl (op_bslice (e := 23) (zs := [(.slice B m c)]) (qs := [(0, (.slice B m c))]) (fun _ => by kernel_rfl) rfl rfl rfl rfl (fun g12 => ?_))
  refine L_op rfl (op_append (z := (.slice none 0 0)) (size := 1) (bytes := 24) 5 rfl Try.underlying127 kr kr (by decide) (src_full (z := 1) 0 rfl rfl sd sd) (by simp [Value.oneCell']) sd sd rfl rfl rfl rfl rfl (fun A13 C14 => ?_))
  refine T_as 0 _ (.row (.slice A13 (k + 1) C14) 23 1 (k + 1) ((Q ++ [(Pt.mk B m c (pdc aad cs k))]).map Pt.sl)) rfl (by first | rfl | (congr 1; simp; done) | (simp only [List.map_append]; rfl) | (rw [List.map_append]; rfl)) ?_
  refine L_op rfl (op_store (vs := [(.slice A13 (k + 1) C14)]) (cs' := [(.slice A13 (k + 1) C14)]) 8 rfl rfl kr (one_one rfl) (by first | decide | simp | exact Nat.le_refl _) rfl rfl rfl rfl rfl ?_)
  refine L_nil ?_
  refine T_alladd 6 4 rfl rfl ?_
  exact T_on (A13, C14, (Q ++ [(Pt.mk B m c (pdc aad cs k))])) (⟨by simp [hp.1], pd_next hp.2⟩) [4, 6, 0, 2, 8, 9, 1, 10, 11, 12, 13, 14, 15] ⟨by decide, rfl⟩
 ·
  intro D t hp
  obtain ⟨A1_, c1_, Q⟩ := t
  have hp : Q.length = 5 ∧ catp Q = pdcat aad cs 5 := hp
  have hcq : catp Q = atext aad cs := by rw [hp.2, pdcat_all]
  refine T_re [(8, (.pointer (some ⟨g3, 0, none⟩))), (9, (.pointer (some ⟨g6, 0, none⟩))), (10, (.pointer (some ⟨g7, 0, none⟩)))] (sc rfl (sc rfl (sc rfl sn))) ?_
  refine T_he [0, 1, 2, 3, 4, 5, 6, 7, 8, 9, 10, 11] [.obj D (.deferred (some [])), .all Q, .row (.slice A1_ 5 c1_) 23 1 5 (Q.map Pt.sl), .rd (some ⟨g1_11, 0, none⟩) 1 1 1 [(.slice (some ⟨g8, 0, none⟩) 2 2)], .rd (some ⟨g8, 0, none⟩) 1 2 2 [(.slice A1 n1 c1), (.slice A2 n2 c2)], .blk g7 127 [(.slice A1_ 5 c1_)], .blk g6 125 ((cblock key (0#32) nonce).map b8), .blk g3 113 ((List.replicate 16 0#8).map b8), .blk g2 86 (nonce.map b8), .blk g1 50 (key.map b8), .rd A1 1 n1 c1 (aad.map b8), .rd A2 1 n2 c2 (cs.map b8)] ⟨by decide, rfl⟩ ?_
  refine T_seq ?_
  refine T_regD [.obj D (.deferred (some [])), .all Q, .row (.slice A1_ 5 c1_) 23 1 5 (Q.map Pt.sl), .rd (some ⟨g1_11, 0, none⟩) 1 1 1 [(.slice (some ⟨g8, 0, none⟩) 2 2)], .rd (some ⟨g8, 0, none⟩) 1 2 2 [(.slice A1 n1 c1), (.slice A2 n2 c2)], .blk g7 127 [(.slice A1_ 5 c1_)], .blk g6 125 ((cblock key (0#32) nonce).map b8), .blk g3 113 ((List.replicate 16 0#8).map b8), .blk g2 86 (nonce.map b8), .blk g1 50 (key.map b8), .rd A1 1 n1 c1 (aad.map b8), .rd A2 1 n2 c2 (cs.map b8)] 5 6 #[false, false, false, false, false, false] hF kr kr ?_
  refine D_pure (i := 0) [0, 1, 2, 3, 4, 5, 6, 7, 8, 9, 10, 11] rfl kr rfl (pr_sla (l := 0) (u := 32) (m := 0) sd sd sd rfl Try.underlying125 (z := 1) kr rfl rfl rfl ⟨_, rfl⟩) (.inr rfl) rfl rfl ?_
  refine D_pure (i := 1) [0, 1, 2, 3, 4, 5, 6, 7, 8, 9, 10, 11] rfl kr rfl (pr_s2a sd Try.underlying50 rfl rfl) (.inr rfl) rfl rfl ?_
  refine D_take (i := 2) [0, 1, 2, 3, 4, 5, 6, 7, 8, 9, 10, 11] rfl kr rfl (ld_agg (ds := ((List.take 32 (cblock key (0#32) nonce)).map b8)) 6 rfl (by simp [List.map_take, List.map_drop]) Try.underlying50 rfl (fwz (n := 32) kr sd) rfl rfl) rfl rfl rfl ?_
  refine D_take (i := 3) [0, 1, 2, 3, 4, 5, 6, 7, 8, 9, 10, 11] rfl kr rfl (ld_blk 5 rfl rfl Try.underlying127 rfl rfl rfl) rfl rfl rfl ?_
  refine D_one 4 _ rfl kr rfl (op_cn (fun w hw => ptag_f (List.take 32 (cblock key (0#32) nonce)) Q A1_ 5 c1_ w (hok_cons ((src_row 2 rfl) w hw) (hok_cons (hw _ (List.mem_of_getElem? (i := 1) rfl)) (hok_nil w))) sd hp.1 (by omega) (by rw [hcq]; omega)) (enters_of Try.func81 kr rfl) rfl rfl rfl rfl rfl (fun t15 q16 => ?_))
  refine T_slot 28 _ (.agg ((atag key nonce aad cs).map b8).toArray) rfl (by rw [hcq, atag_def]) ?_
  refine D_on [0, 1, 2, 3, 4, 5, 6, 7, 8, 9, 10, 11] rfl ?_
  refine D_one 5 _ rfl kr rfl (op_sto (n := 16) (vs := ((atag key nonce aad cs).map b8)) 7 rfl rfl kr (all8_one _) kr sd rfl rfl rfl rfl ?_)
  refine D_past kr ?_
  refine D_done kr ?_
  refine T_ret ?_
  exact T_finM 1 rfl () (by first | trivial | omega | (simp; done)) (resb 0 rfl rfl rfl Try.underlying113 rfl (fwz (n := 16) kr sd)) [] ⟨by decide, rfl⟩ rfl
 ·
  exact fun D t hq => hq.elim
end Go.Proofs.Ytlplpmkdebemnaa
namespace Go.Proofs.Ytlplpmkdebemnaa
set_option linter.unusedVariables false
set_option linter.unusedSimpArgs false
set_option linter.unnecessarySimpa false
set_option maxRecDepth 100000
open Go.RowKit Bv Fw

theorem z16_len (xs : List (BitVec 8)) (n : Nat) (h : xs.length = n) : (z16 xs).length = (16 - n % 16) % 16 := by rw [← z16_def xs n h, List.length_replicate]
theorem eight_len (v : BitVec 64) : (lowb v 8).length = 8 := lowb_len v 8
theorem padk (n k : Nat) (h : k ≤ (16 - n % 16) % 16) (h2 : (n + k) % 16 = 0) : k = (16 - n % 16) % 16 := by omega
theorem padk_lt (n k : Nat) (h : k ≤ (16 - n % 16) % 16) (h2 : ¬ (n + k) % 16 = 0) : k < (16 - n % 16) % 16 := by omega
theorem lowb_succ (v : BitVec 64) (k : Nat) : lowb v (k + 1) = lowb v k ++ [(v >>> (8 * k)).setWidth 8] := rfl
theorem lens8_of (a c : List (BitVec 8)) (n m : Nat) (h : a.length = n) (h2 : c.length = m) (x : List (BitVec 8)) : x ++ lowb (BitVec.ofNat 64 n) 8 ++ lowb (BitVec.ofNat 64 m) 8 = x ++ lens8 a c := by subst h; subst h2; unfold lens8; rw [List.append_assoc]

set_option maxRecDepth 100000 in
set_option maxHeartbeats 4000000 in
theorem seal_f (key : List (BitVec 8)) (nonce : List (BitVec 8)) (aad : List (BitVec 8)) (cs : List (BitVec 8)) (A1 : Option Addr) (n1 : Nat) (c1 : Nat) (A2 : Option Addr) (n2 : Nat) (c2 : Nat) (w : World) (hO : HOK [.rd A1 1 n1 c1 (aad.map b8), .rd A2 1 n2 c2 (cs.map b8)] w) (hk : key.length = 32) (hn : nonce.length = 12) (h1 : aad.length = n1) (h2 : cs.length = n2) (h3 : n1 ≤ 65536) (h4 : n2 ≤ 65536) : Calls Try.prog 54 [(.agg (key.map b8).toArray), (.agg (nonce.map b8).toArray), (.slice A1 n1 c1), (.slice A2 n2 c2)].toArray w (Ret (T := Option Addr × Nat) [] w (fun ⟨B, d⟩ => True) (fun ⟨B, d⟩ => (.tuple [(.slice B (n2 + 16) d), (.int .i64 ((0 : Nat) : Int))].toArray)) (fun ⟨B, d⟩ => [.row (.slice B (n2 + 16) d) 5 1 (n2 + 16) ((aseal key nonce aad cs).map b8)])) := by
 have hcl := cxor_len key nonce 1#32 cs
 have hsl := aseal_len key nonce aad cs
 have htl := atag_len key nonce aad (cxor key nonce 1#32 cs)
 have hF : Wid Fence.wide := wid_wide
 refine enter (c := _) Try.func54 rfl [] _ [.rd A1 1 n1 c1 (aad.map b8), .rd A2 1 n2 c2 (cs.map b8)] (by rw [Try.ntmps54]; rfl) (own_rds hO rfl) ?_
 rw [Try.ntmps54]
 refine T_re [(0, (.agg (key.map b8).toArray)), (1, (.agg (nonce.map b8).toArray)), (2, (.slice A1 n1 c1)), (3, (.slice A2 n2 c2))] (sc rfl (sc rfl (sc rfl (sc rfl sn)))) ?_
 refine T_he [0, 1] [.rd A1 1 n1 c1 (aad.map b8), .rd A2 1 n2 c2 (cs.map b8)] ⟨by decide, rfl⟩ ?_
 refine Tsr hF rfl ?_
 refine L_op rfl (op_box (zs := (key.map b8)) rfl rfl rfl rfl rfl (fun g1 => ?_))
 refine L_op rfl (op_box (zs := (nonce.map b8)) rfl rfl rfl rfl rfl (fun g2 => ?_))
 refine la rfl rfl rfl rfl rfl ?_
 refine la rfl rfl rfl rfl rfl ?_
 refine L_nil ?_
 refine T_seq ?_
 refine Tsr hF rfl ?_
 refine lm rfl rfl rfl rfl rfl ?_
 refine lo rfl (pr_len_sl Try.underlying23 rfl rfl) rfl rfl ?_
 refine lo rfl (pr_cmp (bo := .gtr) (nc_lt (a := 65536) (b := n1)) rfl rfl rfl rfl) rfl rfl ?_
 refine lm rfl rfl rfl rfl rfl ?_
 refine T_slot 15 (.bool (decide (65536 < n1))) (.bool false) rfl (congrArg _ (by simp; omega)) ?_
 refine lm rfl rfl rfl rfl rfl ?_
 refine lo rfl (pr_len_sl Try.underlying23 rfl rfl) rfl rfl ?_
 refine lo rfl (pr_cmp (bo := .gtr) (nc_lt (a := 65536) (b := n2)) rfl rfl rfl rfl) rfl rfl ?_
 refine lo rfl (pr_pick_f rfl rfl rfl) rfl rfl ?_
 refine L_nil ?_
 refine T_cond_no (t := decide (65536 < n2)) rfl (by simp; omega) ?_
 refine T_skip ?_
 refine Tsr hF rfl ?_
 refine lq rfl (ld_agg (ds := (key.map b8)) 1 rfl agg_all Try.underlying50 rfl (fwz (n := 32) kr sd) rfl rfl) rfl rfl ?_
 refine lq rfl (ld_agg (ds := (nonce.map b8)) 0 rfl agg_all Try.underlying86 rfl (fwz (n := 12) kr sd) rfl rfl) rfl rfl ?_
 refine lm rfl rfl rfl rfl rfl ?_
 refine L_op rfl (op_cn (fun w hw => xor_f key nonce (1#32) cs A2 n2 c2 w (hok_cons ((src_rd 3 rfl) w hw) (hok_nil w)) (by first | assumption | exact sd) (by first | assumption | exact sd) (by first | assumption | omega | (simp; done) | (simp; omega)) sd) (enters_of Try.func69 kr rfl) rfl rfl rfl rfl rfl (fun t4 q5 => ?_))
 obtain ⟨B6, d7⟩ := t4
 refine la rfl rfl rfl rfl rfl ?_
 refine L_nil ?_
 refine Tsr hF rfl ?_
 refine lq rfl (ld_agg (ds := (key.map b8)) 2 rfl agg_all Try.underlying50 rfl (fwz (n := 32) kr sd) rfl rfl) rfl rfl ?_
 refine lq rfl (ld_agg (ds := (nonce.map b8)) 1 rfl agg_all Try.underlying86 rfl (fwz (n := 12) kr sd) rfl rfl) rfl rfl ?_
 refine lm rfl rfl rfl rfl rfl ?_
 refine lm rfl rfl rfl rfl rfl ?_
 refine L_op rfl (op_cn (fun w hw => atag_f key nonce aad (cxor key nonce (1#32) cs) A1 n1 c1 B6 n2 d7 w (hok_cons ((src_rd 3 rfl) w hw) (hok_cons ((src_row 0 rfl) w hw) (hok_nil w))) (by first | assumption | exact sd) (by first | assumption | exact sd) (by first | assumption | exact sd) (by first | assumption | exact sd) sd sd) (enters_of Try.func70 kr rfl) rfl rfl rfl rfl rfl (fun t8 q9 => ?_))
 refine L_op rfl (op_alloc (z := .agg ((List.replicate 16 0#8).map b8).toArray) (zs := ((List.replicate 16 0#8).map b8)) kr rfl rfl rfl rfl (fun g10 => ?_))
 refine L_op rfl (op_sto (n := 16) (vs := ((atag key nonce aad (cxor key nonce (1#32) cs)).map b8)) 0 rfl rfl kr (all8_one _) kr sd rfl rfl rfl rfl ?_)
 refine L_nil ?_
 refine Tsr hF rfl ?_
 refine lm rfl rfl rfl rfl rfl ?_
 refine lo rfl (pr_sla (l := 0) (u := 16) (m := 0) sd sd sd rfl Try.underlying113 (z := 1) kr rfl rfl rfl rfl) rfl rfl ?_
 refine L_op rfl (op_append (z := (b8 (0#8))) (size := 1) (bytes := 1) 1 rfl Try.underlying23 kr kr (by decide) (src_full (z := 1) 0 rfl sd sd sd) (all8_one _) sd sd rfl rfl rfl rfl rfl (fun A11 C12 => ?_))
 refine T_as 0 _ (.row (.slice A11 (n2 + 16) C12) 5 1 (n2 + 16) (((cxor key nonce (1#32) cs) ++ (atag key nonce aad (cxor key nonce (1#32) cs))).map b8)) rfl (by first | rfl | (congr 1; simp; done) | (simp only [List.map_append]; rfl) | (rw [List.map_append]; rfl)) ?_
 refine la rfl rfl rfl rfl rfl ?_
 refine la rfl rfl rfl rfl rfl ?_
 refine L_nil ?_
 refine T_ret ?_
 refine T_as 0 _ (.row (.slice A11 (n2 + 16) C12) 5 1 (n2 + 16) ((aseal key nonce aad cs).map b8)) rfl (by rw [aseal_def]) ?_
 exact T_fin (A11, C12) (by first | trivial | omega | (simp; done)) (res2 rfl rfl rfl) [0] ⟨by decide, rfl⟩ rfl
set_option maxHeartbeats 4000000 in
theorem seal_la_f (key : List (BitVec 8)) (nonce : List (BitVec 8)) (aad : List (BitVec 8)) (cs : List (BitVec 8)) (A1 : Option Addr) (n1 : Nat) (c1 : Nat) (A2 : Option Addr) (n2 : Nat) (c2 : Nat) (w : World) (hO : HOK [.rd A1 1 n1 c1 (aad.map b8), .rd A2 1 n2 c2 (cs.map b8)] w) (hk : key.length = 32) (hn : nonce.length = 12) (h1 : aad.length = n1) (h2 : cs.length = n2) (h3 : 65536 < n1) : Calls Try.prog 54 [(.agg (key.map b8).toArray), (.agg (nonce.map b8).toArray), (.slice A1 n1 c1), (.slice A2 n2 c2)].toArray w (Ret (T := Unit) [] w (fun _ => True) (fun _ => (.tuple [(.slice none 0 0), (.int .i64 ((5 : Nat) : Int))].toArray)) (fun _ => [])) := by
 have hF : Wid Fence.wide := wid_wide
 refine enter (c := _) Try.func54 rfl [] _ [.rd A1 1 n1 c1 (aad.map b8), .rd A2 1 n2 c2 (cs.map b8)] (by rw [Try.ntmps54]; rfl) (own_rds hO rfl) ?_
 rw [Try.ntmps54]
 refine T_re [(0, (.agg (key.map b8).toArray)), (1, (.agg (nonce.map b8).toArray)), (2, (.slice A1 n1 c1)), (3, (.slice A2 n2 c2))] (sc rfl (sc rfl (sc rfl (sc rfl sn)))) ?_
 refine T_he [0, 1] [.rd A1 1 n1 c1 (aad.map b8), .rd A2 1 n2 c2 (cs.map b8)] ⟨by decide, rfl⟩ ?_
 refine Tsr hF rfl ?_
 refine L_op rfl (op_box (zs := (key.map b8)) rfl rfl rfl rfl rfl (fun g1 => ?_))
 refine L_op rfl (op_box (zs := (nonce.map b8)) rfl rfl rfl rfl rfl (fun g2 => ?_))
 refine la rfl rfl rfl rfl rfl ?_
 refine la rfl rfl rfl rfl rfl ?_
 refine L_nil ?_
 refine T_seq ?_
 refine Tsr hF rfl ?_
 refine lm rfl rfl rfl rfl rfl ?_
 refine lo rfl (pr_len_sl Try.underlying23 rfl rfl) rfl rfl ?_
 refine lo rfl (pr_cmp (bo := .gtr) (nc_lt (a := 65536) (b := n1)) rfl rfl rfl rfl) rfl rfl ?_
 refine lm rfl rfl rfl rfl rfl ?_
 refine T_slot 15 (.bool (decide (65536 < n1))) (.bool true) rfl (congrArg _ (by simp; omega)) ?_
 refine L_skip rfl rfl rfl ?_
 refine L_skip rfl rfl rfl ?_
 refine L_skip rfl rfl rfl ?_
 refine lo rfl (pr_pick_t rfl rfl rfl) rfl rfl ?_
 refine L_nil ?_
 refine T_cond_t rfl ?_
 refine Tsr hF rfl ?_
 refine la rfl rfl rfl rfl rfl ?_
 refine la rfl rfl rfl rfl rfl ?_
 refine L_nil ?_
 refine T_ret ?_
 exact T_fin () (by first | trivial | omega | (simp; done)) (res2 rfl rfl rfl) [] ⟨by decide, rfl⟩ rfl
set_option maxHeartbeats 4000000 in
theorem seal_lp_f (key : List (BitVec 8)) (nonce : List (BitVec 8)) (aad : List (BitVec 8)) (cs : List (BitVec 8)) (A1 : Option Addr) (n1 : Nat) (c1 : Nat) (A2 : Option Addr) (n2 : Nat) (c2 : Nat) (w : World) (hO : HOK [.rd A1 1 n1 c1 (aad.map b8), .rd A2 1 n2 c2 (cs.map b8)] w) (hk : key.length = 32) (hn : nonce.length = 12) (h1 : aad.length = n1) (h2 : cs.length = n2) (h3 : n1 ≤ 65536) (h4 : 65536 < n2) : Calls Try.prog 54 [(.agg (key.map b8).toArray), (.agg (nonce.map b8).toArray), (.slice A1 n1 c1), (.slice A2 n2 c2)].toArray w (Ret (T := Unit) [] w (fun _ => True) (fun _ => (.tuple [(.slice none 0 0), (.int .i64 ((5 : Nat) : Int))].toArray)) (fun _ => [])) := by
 have hF : Wid Fence.wide := wid_wide
 refine enter (c := _) Try.func54 rfl [] _ [.rd A1 1 n1 c1 (aad.map b8), .rd A2 1 n2 c2 (cs.map b8)] (by rw [Try.ntmps54]; rfl) (own_rds hO rfl) ?_
 rw [Try.ntmps54]
 refine T_re [(0, (.agg (key.map b8).toArray)), (1, (.agg (nonce.map b8).toArray)), (2, (.slice A1 n1 c1)), (3, (.slice A2 n2 c2))] (sc rfl (sc rfl (sc rfl (sc rfl sn)))) ?_
 refine T_he [0, 1] [.rd A1 1 n1 c1 (aad.map b8), .rd A2 1 n2 c2 (cs.map b8)] ⟨by decide, rfl⟩ ?_
 refine Tsr hF rfl ?_
 refine L_op rfl (op_box (zs := (key.map b8)) rfl rfl rfl rfl rfl (fun g1 => ?_))
 refine L_op rfl (op_box (zs := (nonce.map b8)) rfl rfl rfl rfl rfl (fun g2 => ?_))
 refine la rfl rfl rfl rfl rfl ?_
 refine la rfl rfl rfl rfl rfl ?_
 refine L_nil ?_
 refine T_seq ?_
 refine Tsr hF rfl ?_
 refine lm rfl rfl rfl rfl rfl ?_
 refine lo rfl (pr_len_sl Try.underlying23 rfl rfl) rfl rfl ?_
 refine lo rfl (pr_cmp (bo := .gtr) (nc_lt (a := 65536) (b := n1)) rfl rfl rfl rfl) rfl rfl ?_
 refine lm rfl rfl rfl rfl rfl ?_
 refine T_slot 15 (.bool (decide (65536 < n1))) (.bool false) rfl (congrArg _ (by simp; omega)) ?_
 refine lm rfl rfl rfl rfl rfl ?_
 refine lo rfl (pr_len_sl Try.underlying23 rfl rfl) rfl rfl ?_
 refine lo rfl (pr_cmp (bo := .gtr) (nc_lt (a := 65536) (b := n2)) rfl rfl rfl rfl) rfl rfl ?_
 refine lo rfl (pr_pick_f rfl rfl rfl) rfl rfl ?_
 refine L_nil ?_
 refine T_cond_yes (t := decide (65536 < n2)) rfl (by simp; omega) ?_
 refine Tsr hF rfl ?_
 refine la rfl rfl rfl rfl rfl ?_
 refine la rfl rfl rfl rfl rfl ?_
 refine L_nil ?_
 refine T_ret ?_
 exact T_fin () (by first | trivial | omega | (simp; done)) (res2 rfl rfl rfl) [] ⟨by decide, rfl⟩ rfl
end Go.Proofs.Ytlplpmkdebemnaa
