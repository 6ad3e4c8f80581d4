/- What package poly multiplies, by facts. No conditions. -/
import Derived.Test.YtemjinkdfjoicaaGPoly
import Derived.Test.YtemjinkdfjoicaaProg
import Derived.Test.YtemjinkdfjoicaaFwU
namespace Go.Proofs.Ytemjinkdfjoicaa
set_option linter.unusedVariables false
set_option linter.unusedSimpArgs false
set_option linter.unnecessarySimpa false
open Go.RowKit Bv Fw

theorem piece_full (b : List (BitVec 8)) (h : b.length = 16) : v3 (low b 8) (low (List.drop 8 b) 8) 1#64 = pv b ∧ (1#64).toNat ≤ 1 := by
  refine ⟨?_, by decide⟩
  have h1 := vw_take16 b 16 (by omega)
  rw [List.take_of_length_le (by omega)] at h1
  unfold pv
  rw [v3_def, h, h1]
  have : (1#64).toNat = 1 := rfl
  rw [this]
theorem piece_short (b : List (BitVec 8)) (n : Nat) (h : b.length = n) (hn : n < 16) : v3 (low (List.set (cop (List.replicate 16 0#8) 0 b (min n 16)) (min n 16) 1#8) 8) (low (List.take 8 (List.drop 8 (List.set (cop (List.replicate 16 0#8) 0 b (min n 16)) (min n 16) 1#8))) 8) 0#64 = pv b ∧ (0#64).toNat ≤ 1 := by
  refine ⟨?_, by decide⟩
  have hm : min n 16 = n := by omega
  have e : List.set (cop (List.replicate 16 0#8) 0 b (min n 16)) (min n 16) 1#8 = b ++ ([1#8] ++ List.replicate (15 - n) 0#8) := by
    rw [hm]
    have e1 : cop (List.replicate 16 0#8) 0 b n = b ++ List.replicate (16 - n) 0#8 := by
      unfold cop
      rw [List.take_of_length_le (l := b) (by omega), List.drop_replicate]
      simp only [List.take_zero, List.nil_append, Nat.zero_add, h]
    rw [e1, List.set_append_right _ _ (by omega), h, Nat.sub_self, show 16 - n = (15 - n) + 1 by omega, List.replicate_succ, List.set_cons_zero]
    rfl
  have hl : (b ++ ([1#8] ++ List.replicate (15 - n) 0#8)).length = 16 := by simp; omega
  rw [e]
  have h1 := vw_take16 _ 16 (show 16 ≤ (b ++ ([1#8] ++ List.replicate (15 - n) 0#8)).length by omega)
  rw [List.take_of_length_le (by omega)] at h1
  have h2 : low (List.take 8 (List.drop 8 (b ++ ([1#8] ++ List.replicate (15 - n) 0#8)))) 8 = low (List.drop 8 (b ++ ([1#8] ++ List.replicate (15 - n) 0#8))) 8 := by
    rw [List.take_of_length_le (by rw [List.length_drop]; omega)]
  rw [h2, v3_def]
  have h3 : (0#64).toNat = 0 := rfl
  rw [h3]
  unfold pv
  have h4 : vw (b ++ ([1#8] ++ List.replicate (15 - n) 0#8)) = vw b + 256 ^ b.length := by
    have h5 : vw (List.replicate (15 - n) 0#8) = 0 := vw_rep0 _
    rw [vw_app, vw_app, h5, vw_cons, vw_nil]; simp
  rw [h4] at h1
  omega

set_option maxHeartbeats 4000000 in
theorem piece_f (b : List (BitVec 8)) (A : Option Addr) (n : Nat) (c : Nat) (w : World) (hO : HOK [.rd A 1 n c (b.map b8)] w) (hx : b.length = n) (hn : n ≤ 16) : Calls Try.prog 36 [(.slice A n c)].toArray w (Ret (T := BitVec 64 × BitVec 64 × BitVec 64) [] w (fun ⟨x, y, z⟩ => v3 x y z = pv b ∧ z.toNat ≤ 1) (fun ⟨x, y, z⟩ => (.tuple [(b64 x), (b64 y), (b64 z)].toArray)) (fun ⟨x, y, z⟩ => [])) := by
 have hcop : (cop (List.replicate 16 0#8) 0 b (min n 16)).length = 16 := by unfold cop; simp; omega
 have hcop2 : (List.set (cop (List.replicate 16 0#8) 0 b (min n 16)) (min n 16) (1#8)).length = 16 := by rw [List.length_set]; exact hcop
 have hcop3 : (List.take 8 (List.drop 8 (List.set (cop (List.replicate 16 0#8) 0 b (min n 16)) (min n 16) (1#8)))).length = 8 := by rw [List.length_take, List.length_drop, hcop2]; rfl
 have hF : Wid Fence.wide := wid_wide
 refine enter (c := _) Try.func36 rfl [] [(.slice A n c)] [.rd A 1 n c (b.map b8)] (by rw [Try.ntmps36]; rfl) (own_rds hO rfl) ?_
 rw [Try.ntmps36]
 refine T_re [(0, (.slice A n c))] (sc rfl sn) ?_
 refine T_he [0] [.rd A 1 n c (b.map b8)] ⟨by decide, rfl⟩ ?_
 refine Tsr hF rfl ?_
 refine la rfl rfl rfl rfl rfl ?_
 refine la rfl rfl rfl rfl rfl ?_
 refine la rfl rfl rfl rfl rfl ?_
 refine L_nil ?_
 refine T_seq ?_
 refine Tsr hF rfl ?_
 refine lm rfl rfl rfl rfl rfl ?_
 refine lo rfl (pr_len_sl Try.underlying25 rfl rfl) rfl rfl ?_
 refine lo rfl (pr_cmp (bo := .eql) (nc_eq (a := n) (b := 16)) rfl rfl rfl rfl) rfl rfl ?_
 refine L_nil ?_
 refine T_cond (n == 16) rfl (fun hc_1 => ?_) (fun hc_1 => ?_)
 ·
  have hc_1 : n = 16 := by simpa using hc_1
  refine T_seq ?_
  refine T_regD [.rd A 1 n c (b.map b8)] 8 8 #[false, false, false, false, false, false, false, false] hF kr kr ?_
  refine D_pure (i := 0) [0] rfl kr rfl (pr_move rfl rfl) (.inr rfl) rfl rfl ?_
  refine D_pure (i := 2) [0] rfl kr rfl (pr_move rfl rfl) (.inr rfl) rfl rfl ?_
  refine D_join (T := Unit) (fun _ => True) (fun _ => [(2, (b64 (low b 8))), (3, (b64 (low (List.drop 8 b) 8))), (4, (b64 (1#64)))]) (fun _ => [.rd A 1 n c (b.map b8)]) ?_ ?_
  ·
   refine D_all [1, 3] kr (by simp) ⟨⟨_, rfl, rfl, ?_⟩, ⟨_, rfl, rfl, ?_⟩, trivial⟩
   ·
    refine id (op_cn (fun w hw => low_f b 8 A n c w (hok_cons ((src_rd 0 rfl) w hw) (hok_nil w)) sd sd sd) (enters_of Try.func32 kr rfl) rfl rfl rfl rfl rfl (fun t7 q8 => ?_))
    refine D_on [0] rfl ?_
    refine D_one 3 _ rfl kr rfl (op_slice_rd (l := 8) (u := n) 0 rfl sd sd Try.underlying25 kr rfl rfl ⟨_, rfl⟩ rfl rfl rfl (fun B9 => ?_))
    refine T_as 0 _ (.rd B9 1 (n - 8) (c - 8) ((List.drop 8 b).map b8)) rfl (by congr 1; first | rfl | (rw [List.take_of_length_le (by simp; omega)]; simp)) ?_
    refine D_on [1] rfl ?_
    refine D_one 4 _ rfl kr rfl (op_cn (fun w hw => low_f (List.drop 8 b) 8 B9 (n - 8) (c - 8) w (hok_cons ((src_rd 0 rfl) w hw) (hok_nil w)) sd sd sd) (enters_of Try.func32 kr rfl) rfl rfl rfl rfl rfl (fun t10 q11 => ?_))
    refine D_on [1] rfl ?_
    refine D_pure (i := 5) [1] rfl kr rfl (pr_assign rfl rfl) (.inr rfl) rfl rfl ?_
    refine D_pure (i := 6) [1] rfl kr rfl (pr_assign rfl rfl) (.inr rfl) rfl rfl ?_
    refine D_pure (i := 7) [1] rfl kr rfl (pr_assign rfl rfl) (.inr rfl) rfl rfl ?_
    refine D_done kr ?_
    exact T_meet () trivial (sc rfl (sc rfl (sc rfl sn))) [1] ⟨by decide, rfl⟩
   ·
    refine id (op_slice_rd (l := 8) (u := n) 0 rfl sd sd Try.underlying25 kr rfl rfl ⟨_, rfl⟩ rfl rfl rfl (fun B12 => ?_))
    refine T_as 0 _ (.rd B12 1 (n - 8) (c - 8) ((List.drop 8 b).map b8)) rfl (by congr 1; first | rfl | (rw [List.take_of_length_le (by simp; omega)]; simp)) ?_
    refine D_on [1] rfl ?_
    refine D_one 1 _ rfl kr rfl (op_cn (fun w hw => low_f b 8 A n c w (hok_cons ((src_rd 1 rfl) w hw) (hok_nil w)) sd sd sd) (enters_of Try.func32 kr rfl) rfl rfl rfl rfl rfl (fun t13 q14 => ?_))
    refine D_on [1] rfl ?_
    refine D_one 4 _ rfl kr rfl (op_cn (fun w hw => low_f (List.drop 8 b) 8 B12 (n - 8) (c - 8) w (hok_cons ((src_rd 0 rfl) w hw) (hok_nil w)) sd sd sd) (enters_of Try.func32 kr rfl) rfl rfl rfl rfl rfl (fun t15 q16 => ?_))
    refine D_on [1] rfl ?_
    refine D_pure (i := 5) [1] rfl kr rfl (pr_assign rfl rfl) (.inr rfl) rfl rfl ?_
    refine D_pure (i := 6) [1] rfl kr rfl (pr_assign rfl rfl) (.inr rfl) rfl rfl ?_
    refine D_pure (i := 7) [1] rfl kr rfl (pr_assign rfl rfl) (.inr rfl) rfl rfl ?_
    refine D_done kr ?_
    exact T_meet () trivial (sc rfl (sc rfl (sc rfl sn))) [1] ⟨by decide, rfl⟩
  ·
   rintro ⟨⟩ -
   refine T_re [(2, (b64 (low b 8))), (3, (b64 (low (List.drop 8 b) 8))), (4, (b64 (1#64)))] (sc rfl (sc rfl (sc rfl sn))) ?_
   refine T_he [0] [.rd A 1 n c (b.map b8)] ⟨by decide, rfl⟩ ?_
   refine T_ret ?_
   exact T_fin ((low b 8), (low (List.drop 8 b) 8), 1#64) (by first | exact piece_full b (by omega) | exact piece_short b n hx (by omega)) (res3 rfl rfl rfl rfl) [] ⟨by decide, rfl⟩ rfl
 ·
  have hc_1 : ¬ n = 16 := by simpa using hc_1
  refine T_skip ?_
  refine Tsr hF rfl ?_
  refine L_op rfl (op_alloc (z := .agg ((List.replicate 16 0#8).map b8).toArray) (zs := ((List.replicate 16 0#8).map b8)) kr rfl rfl rfl rfl (fun g17 => ?_))
  refine L_nil ?_
  refine Tsr hF rfl ?_
  refine lo rfl (pr_sla (l := 0) (u := 16) (m := 0) sd sd sd rfl Try.underlying27 (z := 1) kr rfl rfl rfl rfl) rfl rfl ?_
  refine lm rfl rfl rfl rfl rfl ?_
  refine L_op rfl (op_copy (cs' := ((cop (List.replicate 16 0#8) 0 b (min n 16)).map b8)) 0 rfl Try.underlying25 kr (src_rd 1 rfl) (all8_one _) sd (cop_map _ _ _ _) rfl rfl rfl rfl rfl ?_)
  refine lo rfl (pr_ixa (j := min n 16) (m' := min n 16) sd (by omega) Try.underlying27 (z := 1) kr rfl rfl rfl) rfl rfl ?_
  refine L_op rfl (op_store (vs := [(b8 (1#8))]) (cs' := ((List.set (cop (List.replicate 16 0#8) 0 b (min n 16)) (min n 16) (1#8)).map b8)) 0 rfl rfl kr (one_one rfl) (stl sd) (splice_map (f := b8) sd) rfl rfl rfl rfl ?_)
  refine L_nil ?_
  refine T_seq ?_
  refine T_regD [.blk g17 27 ((List.set (cop (List.replicate 16 0#8) 0 b (min n 16)) (min n 16) (1#8)).map b8), .rd A 1 n c (b.map b8)] 7 7 #[false, false, false, false, false, false, false] hF kr kr ?_
  refine D_pure (i := 0) [0, 1] rfl kr rfl (pr_sla (l := 0) (u := 16) (m := 0) sd sd sd rfl Try.underlying27 (z := 1) kr rfl rfl rfl rfl) (.inr rfl) rfl rfl ?_
  refine D_pure (i := 2) [0, 1] rfl kr rfl (pr_sla (l := 8) (u := 16) (m := 8) sd sd sd rfl Try.underlying27 (z := 1) kr rfl rfl ⟨_, rfl⟩ rfl) (.inr rfl) rfl rfl ?_
  refine D_one 1 _ rfl kr rfl (op_cn (fun w hw => low_f (List.set (cop (List.replicate 16 0#8) 0 b (min n 16)) (min n 16) (1#8)) 8 (some ⟨g17, 0, none⟩) 16 16 w (hok_cons ((src_full (z := 1) 0 rfl sd sd sd) w hw) (hok_nil w)) sd sd sd) (enters_of Try.func32 kr rfl) rfl rfl rfl rfl rfl (fun t18 q19 => ?_))
  refine D_on [0, 1] rfl ?_
  refine D_one 3 _ rfl kr rfl (op_cn (fun w hw => low_f (List.take 8 (List.drop 8 (List.set (cop (List.replicate 16 0#8) 0 b (min n 16)) (min n 16) (1#8)))) 8 (some ⟨g17, 8, none⟩) 8 8 w (hok_cons ((src_sub 0 rfl sd sd sd) w hw) (hok_nil w)) sd sd sd) (enters_of Try.func32 kr rfl) rfl rfl rfl rfl rfl (fun t20 q21 => ?_))
  refine D_on [0, 1] rfl ?_
  refine D_pure (i := 4) [0, 1] rfl kr rfl (pr_assign rfl rfl) (.inr rfl) rfl rfl ?_
  refine D_pure (i := 5) [0, 1] rfl kr rfl (pr_assign rfl rfl) (.inr rfl) rfl rfl ?_
  refine D_pure (i := 6) [0, 1] rfl kr rfl (pr_assign rfl rfl) (.inr rfl) rfl rfl ?_
  refine D_done kr ?_
  refine T_ret ?_
  exact T_fin ((low (List.set (cop (List.replicate 16 0#8) 0 b (min n 16)) (min n 16) (1#8)) 8), (low (List.take 8 (List.drop 8 (List.set (cop (List.replicate 16 0#8) 0 b (min n 16)) (min n 16) (1#8)))) 8), 0#64) (by first | exact piece_full b (by omega) | exact piece_short b n hx (by omega)) (res3 rfl rfl rfl rfl) [] ⟨by decide, rfl⟩ rfl
theorem times_bits {a0 a1 a2 r0 r1 p0 p1 p1' p2' p2'' p3' k00 k01 k10 k11 k20 k21 : BitVec 64}
    (m00 : 18446744073709551616 * k00.toNat + p0.toNat = a0.toNat * r0.toNat + (0#64).toNat + (0#64).toNat) (m01 : 18446744073709551616 * k01.toNat + p1.toNat = a0.toNat * r1.toNat + k00.toNat + (0#64).toNat)
    (m10 : 18446744073709551616 * k10.toNat + p1'.toNat = a1.toNat * r0.toNat + (0#64).toNat + p1.toNat) (m11 : 18446744073709551616 * k11.toNat + p2'.toNat = a1.toNat * r1.toNat + k10.toNat + (0#64 + k01).toNat)
    (m20 : 18446744073709551616 * k20.toNat + p2''.toNat = a2.toNat * r0.toNat + (0#64).toNat + p2'.toNat) (m21 : 18446744073709551616 * k21.toNat + p3'.toNat = a2.toNat * r1.toNat + k20.toNat + (0#64 + k11).toNat) :
    p0.toNat + 18446744073709551616 * p1'.toNat + 340282366920938463463374607431768211456 * p2''.toNat + 6277101735386680763835789423207666416102355444464034512896 * p3'.toNat + 115792089237316195423570985008687907853269984665640564039457584007913129639936 * (0#64 + k21).toNat = v3 a0 a1 a2 * (r0.toNat + 18446744073709551616 * r1.toNat) := by
  have e0 : (0#64).toNat = 0 := rfl
  rw [BitVec.zero_add] at *
  rw [e0] at m00 m01 m10 m20
  rw [v3_def]
  exact rows_law m00 m01 rfl m10 m11 rfl m20 m21 rfl
theorem times_top {b0 b1 b2 p0 p1 p2 p3 p4 : BitVec 64} (h : v3 b0 b1 b2 = v3 p0 p1 (p2 &&& 3#64) + v3 (p2 &&& ~~~3#64) p3 p4) (h4 : p4.toNat = 0) : b2.toNat < 64 := by
  simp only [v3_def, and3, andnot3, h4] at h
  have h0 := p0.isLt
  have h1 := p1.isLt
  have h2 := p2.isLt
  have h3 := p3.isLt
  omega
theorem top_zero {p0 p1 p2 p3 p4 : BitVec 64} {A R : Nat} (hQ : p0.toNat + 18446744073709551616 * p1.toNat + 340282366920938463463374607431768211456 * p2.toNat + 6277101735386680763835789423207666416102355444464034512896 * p3.toNat + 115792089237316195423570985008687907853269984665640564039457584007913129639936 * p4.toNat = A * R)
    (hb : A * R < 2722258935367507707706996859454145691648 * 21267647932558653966460912964485513216) : p4.toNat = 0 := by omega
theorem side_a (x : BitVec 64) {p4 : BitVec 64} (h4 : p4.toNat = 0) : (x &&& 3#64).toNat + p4.toNat + 1 < 18446744073709551616 := by rw [and3, h4]; omega
theorem side_b {b0 b1 b2 p0 p1 p2 p3 p4 : BitVec 64} (h : v3 b0 b1 b2 = v3 p0 p1 (p2 &&& 3#64) + v3 (p2 &&& ~~~3#64) p3 p4) (h4 : p4.toNat = 0) : b2.toNat + (p4 >>> 2).toNat + 1 < 18446744073709551616 := by
  have h1 := times_top h h4
  rw [shr2, h4]; omega
theorem times_fin {p0 p1 p2 p3 p4 b0 b1 b2 c0 c1 c2 : BitVec 64} {A R : Nat} (hQ : p0.toNat + 18446744073709551616 * p1.toNat + 340282366920938463463374607431768211456 * p2.toNat + 6277101735386680763835789423207666416102355444464034512896 * p3.toNat + 115792089237316195423570985008687907853269984665640564039457584007913129639936 * p4.toNat = A * R)
    (hb : A * R < 2722258935367507707706996859454145691648 * 21267647932558653966460912964485513216) (h1 : v3 b0 b1 b2 = v3 p0 p1 (p2 &&& 3#64) + v3 (p2 &&& ~~~3#64) p3 p4) (h2 : v3 c0 c1 c2 = v3 b0 b1 b2 + v3 (((p2 &&& ~~~3#64) >>> 2) ||| (p3 <<< 62)) ((p3 >>> 2) ||| (p4 <<< 62)) (p4 >>> 2)) :
    v3 c0 c1 c2 % polyP = A * R % polyP ∧ v3 c0 c1 c2 < 1573805947009340393518107559371927977984 := by
  obtain ⟨h3, h4⟩ := fold_law hQ (h2.trans (by rw [h1]))
  refine ⟨h3, ?_⟩
  omega

set_option maxHeartbeats 4000000 in
theorem times_f (a0 : BitVec 64) (a1 : BitVec 64) (a2 : BitVec 64) (r0 : BitVec 64) (r1 : BitVec 64) (w : World) (hO : HOK [] w) (ha : v3 a0 a1 a2 < 2722258935367507707706996859454145691648) (hr : (r0.toNat + 18446744073709551616 * r1.toNat) < 21267647932558653966460912964485513216) : Calls Try.prog 37 [(.agg [(b64 a0), (b64 a1), (b64 a2)].toArray), (.agg [(b64 r0), (b64 r1)].toArray)].toArray w (Ret (T := BitVec 64 × BitVec 64 × BitVec 64) [] w (fun ⟨b0, b1, b2⟩ => v3 b0 b1 b2 % polyP = v3 a0 a1 a2 * (r0.toNat + 18446744073709551616 * r1.toNat) % polyP ∧ v3 b0 b1 b2 < 1573805947009340393518107559371927977984) (fun ⟨b0, b1, b2⟩ => (.agg [(b64 b0), (b64 b1), (b64 b2)].toArray)) (fun ⟨b0, b1, b2⟩ => [])) := by
 have hF : Wid Fence.wide := wid_wide
 refine enter (c := _) Try.func37 rfl [] [(.agg [(b64 a0), (b64 a1), (b64 a2)].toArray), (.agg [(b64 r0), (b64 r1)].toArray)] [] (by rw [Try.ntmps37]; rfl) (own_rds hO rfl) ?_
 rw [Try.ntmps37]
 refine T_re [(0, (.agg [(b64 a0), (b64 a1), (b64 a2)].toArray)), (1, (.agg [(b64 r0), (b64 r1)].toArray))] (sc rfl (sc rfl sn)) ?_
 refine T_he [] [] ⟨by decide, rfl⟩ ?_
 refine Tsr hF rfl ?_
 refine L_op rfl (op_box (zs := [(b64 a0), (b64 a1), (b64 a2)]) rfl rfl rfl rfl rfl (fun g1 => ?_))
 refine L_op rfl (op_box (zs := [(b64 r0), (b64 r1)]) rfl rfl rfl rfl rfl (fun g2 => ?_))
 refine L_op rfl (op_alloc (z := .agg [(b64 (0#64)), (b64 (0#64)), (b64 (0#64))].toArray) (zs := [(b64 (0#64)), (b64 (0#64)), (b64 (0#64))]) kr rfl rfl rfl rfl (fun g3 => ?_))
 refine L_nil ?_
 refine T_scope rfl ?_
 refine Tsr hF rfl ?_
 refine L_op rfl (op_alloc (z := .agg [(b64 (0#64)), (b64 (0#64)), (b64 (0#64)), (b64 (0#64)), (b64 (0#64))].toArray) (zs := [(b64 (0#64)), (b64 (0#64)), (b64 (0#64)), (b64 (0#64)), (b64 (0#64))]) kr rfl rfl rfl rfl (fun g4 => ?_))
 refine L_nil ?_
 refine T_seq ?_
 refine T_label ?_
 refine T_seq ?_
 refine Tsr hF rfl ?_
 refine lq rfl (ld_agg (ds := [(b64 a0), (b64 a1), (b64 a2)]) 3 rfl agg_all Try.underlying53 rfl kr rfl rfl) rfl rfl ?_
 refine lm rfl rfl rfl rfl rfl ?_
 refine L_nil ?_
 refine T_block ?_
 refine T_rounds 3 ?_
 refine T_round ?_
 refine Tsr hF rfl ?_
 refine lo rfl (pr_cmp (bo := .lss) (nc_lt (a := 0) (b := 3)) rfl rfl rfl rfl) rfl rfl ?_
 refine L_nil ?_
 refine T_seq ?_
 refine T_cond_t rfl ?_
 refine T_skip ?_
 refine T_seq ?_
 refine T_block ?_
 refine Tsr hF rfl ?_
 refine lm rfl rfl rfl rfl rfl ?_
 refine lo rfl (pr_ix (cs := [(b64 a0), (b64 a1), (b64 a2)]) (j := 0) sd rfl Try.underlying53 Try.underlying49 rfl kr rfl rfl rfl) rfl rfl ?_
 refine la rfl rfl rfl rfl rfl ?_
 refine la rfl rfl rfl rfl rfl ?_
 refine L_nil ?_
 refine Tsr hF rfl ?_
 refine la rfl rfl rfl rfl rfl ?_
 refine L_nil ?_
 refine T_seq ?_
 refine Tsr hF rfl ?_
 refine lq rfl (ld_agg (ds := [(b64 r0), (b64 r1)]) 2 rfl agg_all Try.underlying51 rfl kr rfl rfl) rfl rfl ?_
 refine lm rfl rfl rfl rfl rfl ?_
 refine L_nil ?_
 refine T_block ?_
 refine T_rounds 3 ?_
 refine T_round ?_
 refine Tsr hF rfl ?_
 refine lo rfl (pr_cmp (bo := .lss) (nc_lt (a := 0) (b := 2)) rfl rfl rfl rfl) rfl rfl ?_
 refine L_nil ?_
 refine T_seq ?_
 refine T_cond_t rfl ?_
 refine T_skip ?_
 refine T_seq ?_
 refine T_block ?_
 refine Tsr hF rfl ?_
 refine lm rfl rfl rfl rfl rfl ?_
 refine lo rfl (pr_ix (cs := [(b64 r0), (b64 r1)]) (j := 0) sd rfl Try.underlying51 Try.underlying49 rfl kr rfl rfl rfl) rfl rfl ?_
 refine la rfl rfl rfl rfl rfl ?_
 refine la rfl rfl rfl rfl rfl ?_
 refine L_nil ?_
 refine Tsr hF rfl ?_
 refine lm rfl rfl rfl rfl rfl ?_
 refine lm rfl rfl rfl rfl rfl ?_
 refine L_op rfl (op_cn (fun w hw => mul64_f a0 r0 w (hok_nil w) ) (enters_of Try.func51 kr rfl) rfl rfl rfl rfl rfl (fun t5 q6 => ?_))
 obtain ⟨h7, l8⟩ := t5
 have q6 : 18446744073709551616 * h7.toNat + l8.toNat = a0.toNat * r0.toNat := q6
 refine lm rfl rfl rfl rfl rfl ?_
 refine lo rfl (pr_ext (vs := [(b64 h7), (b64 l8)]) rfl rfl rfl) rfl rfl ?_
 refine lo rfl (pr_ext (vs := [(b64 h7), (b64 l8)]) rfl rfl rfl) rfl rfl ?_
 refine la rfl rfl rfl rfl rfl ?_
 refine la rfl rfl rfl rfl rfl ?_
 refine L_nil ?_
 refine Tsr hF rfl ?_
 refine la rfl rfl rfl rfl rfl ?_
 refine L_nil ?_
 refine Tsr hF rfl ?_
 refine lm rfl rfl rfl rfl rfl ?_
 refine lm rfl rfl rfl rfl rfl ?_
 obtain ⟨s9, d10, ha_11, hb_12, hv_13⟩ := add64_at l8 (0#64) (0#64) (by first | assumption | decide)
 refine lo rfl (pr_extern hv_13 rfl rfl rfl) rfl rfl ?_
 refine lm rfl rfl rfl rfl rfl ?_
 refine lo rfl (pr_ext (vs := [(b64 s9), (b64 d10)]) rfl rfl rfl) rfl rfl ?_
 refine lo rfl (pr_ext (vs := [(b64 s9), (b64 d10)]) rfl rfl rfl) rfl rfl ?_
 refine la rfl rfl rfl rfl rfl ?_
 refine la rfl rfl rfl rfl rfl ?_
 refine L_nil ?_
 refine Tsr hF rfl ?_
 refine lm rfl rfl rfl rfl rfl ?_
 refine lm rfl rfl rfl rfl rfl ?_
 refine lo rfl (pr_add (add64 _ _) rfl rfl rfl) rfl rfl ?_
 refine la rfl rfl rfl rfl rfl ?_
 refine L_nil ?_
 refine Tsr hF rfl ?_
 refine lm rfl rfl rfl rfl rfl ?_
 refine lm rfl rfl rfl rfl rfl ?_
 refine lo rfl (pr_add (na_i64 (a := 0) (b := 0) sd) rfl rfl rfl) rfl rfl ?_
 refine lm rfl rfl rfl rfl rfl ?_
 refine lm rfl rfl rfl rfl rfl ?_
 refine lo rfl (pr_add (na_i64 (a := 0) (b := 0) sd) rfl rfl rfl) rfl rfl ?_
 refine lo rfl (pr_ixa (j := 0) (m' := 0) sd (by omega) Try.underlying75 (z := 1) kr rfl rfl rfl) rfl rfl ?_
 refine lq rfl (ld_blk 0 rfl rfl Try.underlying49 rfl rfl rfl) rfl rfl ?_
 refine lm rfl rfl rfl rfl rfl ?_
 obtain ⟨s14, d15, ha_16, hb_17, hv_18⟩ := add64_at (0#64) s9 (0#64) (by first | assumption | decide)
 refine lo rfl (pr_extern hv_18 rfl rfl rfl) rfl rfl ?_
 refine lm rfl rfl rfl rfl rfl ?_
 refine lo rfl (pr_ext (vs := [(b64 s14), (b64 d15)]) rfl rfl rfl) rfl rfl ?_
 refine lo rfl (pr_ext (vs := [(b64 s14), (b64 d15)]) rfl rfl rfl) rfl rfl ?_
 refine lo rfl (pr_ixa (j := 0) (m' := 0) sd (by omega) Try.underlying75 (z := 1) kr rfl rfl rfl) rfl rfl ?_
 refine L_op rfl (op_store (vs := [(b64 s14)]) (cs' := [(b64 s14), (b64 (0#64)), (b64 (0#64)), (b64 (0#64)), (b64 (0#64))]) 0 rfl rfl kr (one_one rfl) (by first | decide | simp | exact Nat.le_refl _) rfl rfl rfl rfl rfl ?_)
 refine la rfl rfl rfl rfl rfl ?_
 refine L_nil ?_
 refine T_reg hF rfl ?_
 refine lm rfl rfl rfl rfl rfl ?_
 refine lm rfl rfl rfl rfl rfl ?_
 refine lo rfl (pr_add (add64 _ _) rfl rfl rfl) rfl rfl ?_
 refine la rfl rfl rfl rfl rfl ?_
 refine L_nil ?_
 refine T_reg hF rfl ?_
 refine lo rfl (pr_add (na_i64 (a := 0) (b := 1) sd) rfl rfl rfl) rfl rfl ?_
 refine lm rfl rfl rfl rfl rfl ?_
 refine L_nil ?_
 refine T_round ?_
 refine Tsr hF rfl ?_
 refine lo rfl (pr_cmp (bo := .lss) (nc_lt (a := 1) (b := 2)) rfl rfl rfl rfl) rfl rfl ?_
 refine L_nil ?_
 refine T_re [(3, (.pointer (some ⟨g2, 0, none⟩))), (4, (.pointer (some ⟨g3, 0, none⟩))), (5, (.pointer (some ⟨g4, 0, none⟩))), (6, (.int .i64 ((0 : Nat) : Int))), (7, (b64 a0)), (8, (b64 ((h7 + d10) + d15))), (17, (.agg [(b64 a0), (b64 a1), (b64 a2)].toArray)), (18, (.int .i64 ((0 : Nat) : Int))), (22, (.agg [(b64 r0), (b64 r1)].toArray)), (23, (.int .i64 ((1 : Nat) : Int))), (24, (.bool (decide (1 < 2))))] (sc rfl (sc rfl (sc rfl (sc rfl (sc rfl (sc rfl (sc rfl (sc rfl (sc rfl (sc rfl (sc rfl sn))))))))))) ?_
 refine T_he [0, 1, 2, 3] [.blk g4 75 [(b64 s14), (b64 (0#64)), (b64 (0#64)), (b64 (0#64)), (b64 (0#64))], .blk g3 53 [(b64 (0#64)), (b64 (0#64)), (b64 (0#64))], .blk g2 51 [(b64 r0), (b64 r1)], .blk g1 53 [(b64 a0), (b64 a1), (b64 a2)]] ⟨by decide, rfl⟩ ?_
 refine T_seq ?_
 refine T_cond_t rfl ?_
 refine T_skip ?_
 refine T_seq ?_
 refine T_block ?_
 refine Tsr hF rfl ?_
 refine lm rfl rfl rfl rfl rfl ?_
 refine lo rfl (pr_ix (cs := [(b64 r0), (b64 r1)]) (j := 1) sd rfl Try.underlying51 Try.underlying49 rfl kr rfl rfl rfl) rfl rfl ?_
 refine la rfl rfl rfl rfl rfl ?_
 refine la rfl rfl rfl rfl rfl ?_
 refine L_nil ?_
 refine Tsr hF rfl ?_
 refine lm rfl rfl rfl rfl rfl ?_
 refine lm rfl rfl rfl rfl rfl ?_
 refine L_op rfl (op_cn (fun w hw => mul64_f a0 r1 w (hok_nil w) ) (enters_of Try.func51 kr rfl) rfl rfl rfl rfl rfl (fun t19 q20 => ?_))
 obtain ⟨h21, l22⟩ := t19
 have q20 : 18446744073709551616 * h21.toNat + l22.toNat = a0.toNat * r1.toNat := q20
 refine lm rfl rfl rfl rfl rfl ?_
 refine lo rfl (pr_ext (vs := [(b64 h21), (b64 l22)]) rfl rfl rfl) rfl rfl ?_
 refine lo rfl (pr_ext (vs := [(b64 h21), (b64 l22)]) rfl rfl rfl) rfl rfl ?_
 refine la rfl rfl rfl rfl rfl ?_
 refine la rfl rfl rfl rfl rfl ?_
 refine L_nil ?_
 refine Tsr hF rfl ?_
 refine la rfl rfl rfl rfl rfl ?_
 refine L_nil ?_
 refine Tsr hF rfl ?_
 refine lm rfl rfl rfl rfl rfl ?_
 refine lm rfl rfl rfl rfl rfl ?_
 obtain ⟨s23, d24, ha_25, hb_26, hv_27⟩ := add64_at l22 ((h7 + d10) + d15) (0#64) (by first | assumption | decide)
 refine lo rfl (pr_extern hv_27 rfl rfl rfl) rfl rfl ?_
 refine lm rfl rfl rfl rfl rfl ?_
 refine lo rfl (pr_ext (vs := [(b64 s23), (b64 d24)]) rfl rfl rfl) rfl rfl ?_
 refine lo rfl (pr_ext (vs := [(b64 s23), (b64 d24)]) rfl rfl rfl) rfl rfl ?_
 refine la rfl rfl rfl rfl rfl ?_
 refine la rfl rfl rfl rfl rfl ?_
 refine L_nil ?_
 refine Tsr hF rfl ?_
 refine lm rfl rfl rfl rfl rfl ?_
 refine lm rfl rfl rfl rfl rfl ?_
 refine lo rfl (pr_add (add64 _ _) rfl rfl rfl) rfl rfl ?_
 refine la rfl rfl rfl rfl rfl ?_
 refine L_nil ?_
 refine Tsr hF rfl ?_
 refine lm rfl rfl rfl rfl rfl ?_
 refine lm rfl rfl rfl rfl rfl ?_
 refine lo rfl (pr_add (na_i64 (a := 0) (b := 1) sd) rfl rfl rfl) rfl rfl ?_
 refine lm rfl rfl rfl rfl rfl ?_
 refine lm rfl rfl rfl rfl rfl ?_
 refine lo rfl (pr_add (na_i64 (a := 0) (b := 1) sd) rfl rfl rfl) rfl rfl ?_
 refine lo rfl (pr_ixa (j := 1) (m' := 1) sd (by omega) Try.underlying75 (z := 1) kr rfl rfl rfl) rfl rfl ?_
 refine lq rfl (ld_blk 0 rfl rfl Try.underlying49 rfl rfl rfl) rfl rfl ?_
 refine lm rfl rfl rfl rfl rfl ?_
 obtain ⟨s28, d29, ha_30, hb_31, hv_32⟩ := add64_at (0#64) s23 (0#64) (by first | assumption | decide)
 refine lo rfl (pr_extern hv_32 rfl rfl rfl) rfl rfl ?_
 refine lm rfl rfl rfl rfl rfl ?_
 refine lo rfl (pr_ext (vs := [(b64 s28), (b64 d29)]) rfl rfl rfl) rfl rfl ?_
 refine lo rfl (pr_ext (vs := [(b64 s28), (b64 d29)]) rfl rfl rfl) rfl rfl ?_
 refine lo rfl (pr_ixa (j := 1) (m' := 1) sd (by omega) Try.underlying75 (z := 1) kr rfl rfl rfl) rfl rfl ?_
 refine L_op rfl (op_store (vs := [(b64 s28)]) (cs' := [(b64 s14), (b64 s28), (b64 (0#64)), (b64 (0#64)), (b64 (0#64))]) 0 rfl rfl kr (one_one rfl) (by first | decide | simp | exact Nat.le_refl _) rfl rfl rfl rfl rfl ?_)
 refine la rfl rfl rfl rfl rfl ?_
 refine L_nil ?_
 refine T_reg hF rfl ?_
 refine lm rfl rfl rfl rfl rfl ?_
 refine lm rfl rfl rfl rfl rfl ?_
 refine lo rfl (pr_add (add64 _ _) rfl rfl rfl) rfl rfl ?_
 refine la rfl rfl rfl rfl rfl ?_
 refine L_nil ?_
 refine T_reg hF rfl ?_
 refine lo rfl (pr_add (na_i64 (a := 1) (b := 1) sd) rfl rfl rfl) rfl rfl ?_
 refine lm rfl rfl rfl rfl rfl ?_
 refine L_nil ?_
 refine T_round ?_
 refine Tsr hF rfl ?_
 refine lo rfl (pr_cmp (bo := .lss) (nc_lt (a := 2) (b := 2)) rfl rfl rfl rfl) rfl rfl ?_
 refine L_nil ?_
 refine T_seq ?_
 refine T_cond_f rfl ?_
 refine T_exit rfl ?_
 refine Tsr hF rfl ?_
 refine lm rfl rfl rfl rfl rfl ?_
 refine lo rfl (pr_add (na_i64 (a := 0) (b := 2) sd) rfl rfl rfl) rfl rfl ?_
 refine lo rfl (pr_ixa (j := 2) (m' := 2) sd (by omega) Try.underlying75 (z := 1) kr rfl rfl rfl) rfl rfl ?_
 refine lq rfl (ld_blk 0 rfl rfl Try.underlying49 rfl rfl rfl) rfl rfl ?_
 refine lm rfl rfl rfl rfl rfl ?_
 refine lo rfl (pr_add (add64 _ _) rfl rfl rfl) rfl rfl ?_
 refine lo rfl (pr_ixa (j := 2) (m' := 2) sd (by omega) Try.underlying75 (z := 1) kr rfl rfl rfl) rfl rfl ?_
 refine L_op rfl (op_store (vs := [(b64 (0#64 + ((h21 + d24) + d29)))]) (cs' := [(b64 s14), (b64 s28), (b64 (0#64 + ((h21 + d24) + d29))), (b64 (0#64)), (b64 (0#64))]) 0 rfl rfl kr (one_one rfl) (by first | decide | simp | exact Nat.le_refl _) rfl rfl rfl rfl rfl ?_)
 refine L_nil ?_
 refine Tsr hF rfl ?_
 refine lm rfl rfl rfl rfl rfl ?_
 refine lo rfl (pr_cmp (bo := .eql) (nc_eq (a := 0) (b := 2)) rfl rfl rfl rfl) rfl rfl ?_
 refine L_nil ?_
 refine T_cond_f rfl ?_
 refine T_skip ?_
 refine T_reg hF rfl ?_
 refine lo rfl (pr_add (na_i64 (a := 0) (b := 1) sd) rfl rfl rfl) rfl rfl ?_
 refine lm rfl rfl rfl rfl rfl ?_
 refine L_nil ?_
 refine T_round ?_
 refine Tsr hF rfl ?_
 refine lo rfl (pr_cmp (bo := .lss) (nc_lt (a := 1) (b := 3)) rfl rfl rfl rfl) rfl rfl ?_
 refine L_nil ?_
 refine T_seq ?_
 refine T_cond_t rfl ?_
 refine T_skip ?_
 refine T_seq ?_
 refine T_block ?_
 refine Tsr hF rfl ?_
 refine lm rfl rfl rfl rfl rfl ?_
 refine lo rfl (pr_ix (cs := [(b64 a0), (b64 a1), (b64 a2)]) (j := 1) sd rfl Try.underlying53 Try.underlying49 rfl kr rfl rfl rfl) rfl rfl ?_
 refine la rfl rfl rfl rfl rfl ?_
 refine la rfl rfl rfl rfl rfl ?_
 refine L_nil ?_
 refine Tsr hF rfl ?_
 refine la rfl rfl rfl rfl rfl ?_
 refine L_nil ?_
 refine T_seq ?_
 refine Tsr hF rfl ?_
 refine lq rfl (ld_agg (ds := [(b64 r0), (b64 r1)]) 2 rfl agg_all Try.underlying51 rfl kr rfl rfl) rfl rfl ?_
 refine lm rfl rfl rfl rfl rfl ?_
 refine L_nil ?_
 refine T_block ?_
 refine T_rounds 3 ?_
 refine T_round ?_
 refine Tsr hF rfl ?_
 refine lo rfl (pr_cmp (bo := .lss) (nc_lt (a := 0) (b := 2)) rfl rfl rfl rfl) rfl rfl ?_
 refine L_nil ?_
 refine T_re [(3, (.pointer (some ⟨g2, 0, none⟩))), (4, (.pointer (some ⟨g3, 0, none⟩))), (5, (.pointer (some ⟨g4, 0, none⟩))), (6, (.int .i64 ((1 : Nat) : Int))), (7, (b64 a1)), (8, (b64 (0#64))), (17, (.agg [(b64 a0), (b64 a1), (b64 a2)].toArray)), (18, (.int .i64 ((1 : Nat) : Int))), (22, (.agg [(b64 r0), (b64 r1)].toArray)), (23, (.int .i64 ((0 : Nat) : Int))), (24, (.bool (decide (0 < 2))))] (sc rfl (sc rfl (sc rfl (sc rfl (sc rfl (sc rfl (sc rfl (sc rfl (sc rfl (sc rfl (sc rfl sn))))))))))) ?_
 refine T_he [0, 1, 2, 3] [.blk g4 75 [(b64 s14), (b64 s28), (b64 (0#64 + ((h21 + d24) + d29))), (b64 (0#64)), (b64 (0#64))], .blk g3 53 [(b64 (0#64)), (b64 (0#64)), (b64 (0#64))], .blk g2 51 [(b64 r0), (b64 r1)], .blk g1 53 [(b64 a0), (b64 a1), (b64 a2)]] ⟨by decide, rfl⟩ ?_
 refine T_seq ?_
 refine T_cond_t rfl ?_
 refine T_skip ?_
 refine T_seq ?_
 refine T_block ?_
 refine Tsr hF rfl ?_
 refine lm rfl rfl rfl rfl rfl ?_
 refine lo rfl (pr_ix (cs := [(b64 r0), (b64 r1)]) (j := 0) sd rfl Try.underlying51 Try.underlying49 rfl kr rfl rfl rfl) rfl rfl ?_
 refine la rfl rfl rfl rfl rfl ?_
 refine la rfl rfl rfl rfl rfl ?_
 refine L_nil ?_
 refine Tsr hF rfl ?_
 refine lm rfl rfl rfl rfl rfl ?_
 refine lm rfl rfl rfl rfl rfl ?_
 refine L_op rfl (op_cn (fun w hw => mul64_f a1 r0 w (hok_nil w) ) (enters_of Try.func51 kr rfl) rfl rfl rfl rfl rfl (fun t33 q34 => ?_))
 obtain ⟨h35, l36⟩ := t33
 have q34 : 18446744073709551616 * h35.toNat + l36.toNat = a1.toNat * r0.toNat := q34
 refine lm rfl rfl rfl rfl rfl ?_
 refine lo rfl (pr_ext (vs := [(b64 h35), (b64 l36)]) rfl rfl rfl) rfl rfl ?_
 refine lo rfl (pr_ext (vs := [(b64 h35), (b64 l36)]) rfl rfl rfl) rfl rfl ?_
 refine la rfl rfl rfl rfl rfl ?_
 refine la rfl rfl rfl rfl rfl ?_
 refine L_nil ?_
 refine Tsr hF rfl ?_
 refine la rfl rfl rfl rfl rfl ?_
 refine L_nil ?_
 refine Tsr hF rfl ?_
 refine lm rfl rfl rfl rfl rfl ?_
 refine lm rfl rfl rfl rfl rfl ?_
 obtain ⟨s37, d38, ha_39, hb_40, hv_41⟩ := add64_at l36 (0#64) (0#64) (by first | assumption | decide)
 refine lo rfl (pr_extern hv_41 rfl rfl rfl) rfl rfl ?_
 refine lm rfl rfl rfl rfl rfl ?_
 refine lo rfl (pr_ext (vs := [(b64 s37), (b64 d38)]) rfl rfl rfl) rfl rfl ?_
 refine lo rfl (pr_ext (vs := [(b64 s37), (b64 d38)]) rfl rfl rfl) rfl rfl ?_
 refine la rfl rfl rfl rfl rfl ?_
 refine la rfl rfl rfl rfl rfl ?_
 refine L_nil ?_
 refine Tsr hF rfl ?_
 refine lm rfl rfl rfl rfl rfl ?_
 refine lm rfl rfl rfl rfl rfl ?_
 refine lo rfl (pr_add (add64 _ _) rfl rfl rfl) rfl rfl ?_
 refine la rfl rfl rfl rfl rfl ?_
 refine L_nil ?_
 refine Tsr hF rfl ?_
 refine lm rfl rfl rfl rfl rfl ?_
 refine lm rfl rfl rfl rfl rfl ?_
 refine lo rfl (pr_add (na_i64 (a := 1) (b := 0) sd) rfl rfl rfl) rfl rfl ?_
 refine lm rfl rfl rfl rfl rfl ?_
 refine lm rfl rfl rfl rfl rfl ?_
 refine lo rfl (pr_add (na_i64 (a := 1) (b := 0) sd) rfl rfl rfl) rfl rfl ?_
 refine lo rfl (pr_ixa (j := 1) (m' := 1) sd (by omega) Try.underlying75 (z := 1) kr rfl rfl rfl) rfl rfl ?_
 refine lq rfl (ld_blk 0 rfl rfl Try.underlying49 rfl rfl rfl) rfl rfl ?_
 refine lm rfl rfl rfl rfl rfl ?_
 obtain ⟨s42, d43, ha_44, hb_45, hv_46⟩ := add64_at s28 s37 (0#64) (by first | assumption | decide)
 refine lo rfl (pr_extern hv_46 rfl rfl rfl) rfl rfl ?_
 refine lm rfl rfl rfl rfl rfl ?_
 refine lo rfl (pr_ext (vs := [(b64 s42), (b64 d43)]) rfl rfl rfl) rfl rfl ?_
 refine lo rfl (pr_ext (vs := [(b64 s42), (b64 d43)]) rfl rfl rfl) rfl rfl ?_
 refine lo rfl (pr_ixa (j := 1) (m' := 1) sd (by omega) Try.underlying75 (z := 1) kr rfl rfl rfl) rfl rfl ?_
 refine L_op rfl (op_store (vs := [(b64 s42)]) (cs' := [(b64 s14), (b64 s42), (b64 (0#64 + ((h21 + d24) + d29))), (b64 (0#64)), (b64 (0#64))]) 0 rfl rfl kr (one_one rfl) (by first | decide | simp | exact Nat.le_refl _) rfl rfl rfl rfl rfl ?_)
 refine la rfl rfl rfl rfl rfl ?_
 refine L_nil ?_
 refine T_reg hF rfl ?_
 refine lm rfl rfl rfl rfl rfl ?_
 refine lm rfl rfl rfl rfl rfl ?_
 refine lo rfl (pr_add (add64 _ _) rfl rfl rfl) rfl rfl ?_
 refine la rfl rfl rfl rfl rfl ?_
 refine L_nil ?_
 refine T_reg hF rfl ?_
 refine lo rfl (pr_add (na_i64 (a := 0) (b := 1) sd) rfl rfl rfl) rfl rfl ?_
 refine lm rfl rfl rfl rfl rfl ?_
 refine L_nil ?_
 refine T_round ?_
 refine Tsr hF rfl ?_
 refine lo rfl (pr_cmp (bo := .lss) (nc_lt (a := 1) (b := 2)) rfl rfl rfl rfl) rfl rfl ?_
 refine L_nil ?_
 refine T_seq ?_
 refine T_cond_t rfl ?_
 refine T_skip ?_
 refine T_seq ?_
 refine T_block ?_
 refine Tsr hF rfl ?_
 refine lm rfl rfl rfl rfl rfl ?_
 refine lo rfl (pr_ix (cs := [(b64 r0), (b64 r1)]) (j := 1) sd rfl Try.underlying51 Try.underlying49 rfl kr rfl rfl rfl) rfl rfl ?_
 refine la rfl rfl rfl rfl rfl ?_
 refine la rfl rfl rfl rfl rfl ?_
 refine L_nil ?_
 refine Tsr hF rfl ?_
 refine lm rfl rfl rfl rfl rfl ?_
 refine lm rfl rfl rfl rfl rfl ?_
 refine L_op rfl (op_cn (fun w hw => mul64_f a1 r1 w (hok_nil w) ) (enters_of Try.func51 kr rfl) rfl rfl rfl rfl rfl (fun t47 q48 => ?_))
 obtain ⟨h49, l50⟩ := t47
 have q48 : 18446744073709551616 * h49.toNat + l50.toNat = a1.toNat * r1.toNat := q48
 refine lm rfl rfl rfl rfl rfl ?_
 refine lo rfl (pr_ext (vs := [(b64 h49), (b64 l50)]) rfl rfl rfl) rfl rfl ?_
 refine lo rfl (pr_ext (vs := [(b64 h49), (b64 l50)]) rfl rfl rfl) rfl rfl ?_
 refine la rfl rfl rfl rfl rfl ?_
 refine la rfl rfl rfl rfl rfl ?_
 refine L_nil ?_
 refine Tsr hF rfl ?_
 refine la rfl rfl rfl rfl rfl ?_
 refine L_nil ?_
 refine Tsr hF rfl ?_
 refine lm rfl rfl rfl rfl rfl ?_
 refine lm rfl rfl rfl rfl rfl ?_
 obtain ⟨s51, d52, ha_53, hb_54, hv_55⟩ := add64_at l50 ((h35 + d38) + d43) (0#64) (by first | assumption | decide)
 refine lo rfl (pr_extern hv_55 rfl rfl rfl) rfl rfl ?_
 refine lm rfl rfl rfl rfl rfl ?_
 refine lo rfl (pr_ext (vs := [(b64 s51), (b64 d52)]) rfl rfl rfl) rfl rfl ?_
 refine lo rfl (pr_ext (vs := [(b64 s51), (b64 d52)]) rfl rfl rfl) rfl rfl ?_
 refine la rfl rfl rfl rfl rfl ?_
 refine la rfl rfl rfl rfl rfl ?_
 refine L_nil ?_
 refine Tsr hF rfl ?_
 refine lm rfl rfl rfl rfl rfl ?_
 refine lm rfl rfl rfl rfl rfl ?_
 refine lo rfl (pr_add (add64 _ _) rfl rfl rfl) rfl rfl ?_
 refine la rfl rfl rfl rfl rfl ?_
 refine L_nil ?_
 refine Tsr hF rfl ?_
 refine lm rfl rfl rfl rfl rfl ?_
 refine lm rfl rfl rfl rfl rfl ?_
 refine lo rfl (pr_add (na_i64 (a := 1) (b := 1) sd) rfl rfl rfl) rfl rfl ?_
 refine lm rfl rfl rfl rfl rfl ?_
 refine lm rfl rfl rfl rfl rfl ?_
 refine lo rfl (pr_add (na_i64 (a := 1) (b := 1) sd) rfl rfl rfl) rfl rfl ?_
 refine lo rfl (pr_ixa (j := 2) (m' := 2) sd (by omega) Try.underlying75 (z := 1) kr rfl rfl rfl) rfl rfl ?_
 refine lq rfl (ld_blk 0 rfl rfl Try.underlying49 rfl rfl rfl) rfl rfl ?_
 refine lm rfl rfl rfl rfl rfl ?_
 obtain ⟨s56, d57, ha_58, hb_59, hv_60⟩ := add64_at (0#64 + ((h21 + d24) + d29)) s51 (0#64) (by first | assumption | decide)
 refine lo rfl (pr_extern hv_60 rfl rfl rfl) rfl rfl ?_
 refine lm rfl rfl rfl rfl rfl ?_
 refine lo rfl (pr_ext (vs := [(b64 s56), (b64 d57)]) rfl rfl rfl) rfl rfl ?_
 refine lo rfl (pr_ext (vs := [(b64 s56), (b64 d57)]) rfl rfl rfl) rfl rfl ?_
 refine lo rfl (pr_ixa (j := 2) (m' := 2) sd (by omega) Try.underlying75 (z := 1) kr rfl rfl rfl) rfl rfl ?_
 refine L_op rfl (op_store (vs := [(b64 s56)]) (cs' := [(b64 s14), (b64 s42), (b64 s56), (b64 (0#64)), (b64 (0#64))]) 0 rfl rfl kr (one_one rfl) (by first | decide | simp | exact Nat.le_refl _) rfl rfl rfl rfl rfl ?_)
 refine la rfl rfl rfl rfl rfl ?_
 refine L_nil ?_
 refine T_reg hF rfl ?_
 refine lm rfl rfl rfl rfl rfl ?_
 refine lm rfl rfl rfl rfl rfl ?_
 refine lo rfl (pr_add (add64 _ _) rfl rfl rfl) rfl rfl ?_
 refine la rfl rfl rfl rfl rfl ?_
 refine L_nil ?_
 refine T_reg hF rfl ?_
 refine lo rfl (pr_add (na_i64 (a := 1) (b := 1) sd) rfl rfl rfl) rfl rfl ?_
 refine lm rfl rfl rfl rfl rfl ?_
 refine L_nil ?_
 refine T_round ?_
 refine Tsr hF rfl ?_
 refine lo rfl (pr_cmp (bo := .lss) (nc_lt (a := 2) (b := 2)) rfl rfl rfl rfl) rfl rfl ?_
 refine L_nil ?_
 refine T_re [(3, (.pointer (some ⟨g2, 0, none⟩))), (4, (.pointer (some ⟨g3, 0, none⟩))), (5, (.pointer (some ⟨g4, 0, none⟩))), (6, (.int .i64 ((1 : Nat) : Int))), (7, (b64 a1)), (8, (b64 ((h49 + d52) + d57))), (17, (.agg [(b64 a0), (b64 a1), (b64 a2)].toArray)), (18, (.int .i64 ((1 : Nat) : Int))), (22, (.agg [(b64 r0), (b64 r1)].toArray)), (23, (.int .i64 ((2 : Nat) : Int))), (24, (.bool (decide (2 < 2))))] (sc rfl (sc rfl (sc rfl (sc rfl (sc rfl (sc rfl (sc rfl (sc rfl (sc rfl (sc rfl (sc rfl sn))))))))))) ?_
 refine T_he [0, 1, 2, 3] [.blk g4 75 [(b64 s14), (b64 s42), (b64 s56), (b64 (0#64)), (b64 (0#64))], .blk g3 53 [(b64 (0#64)), (b64 (0#64)), (b64 (0#64))], .blk g2 51 [(b64 r0), (b64 r1)], .blk g1 53 [(b64 a0), (b64 a1), (b64 a2)]] ⟨by decide, rfl⟩ ?_
 refine T_seq ?_
 refine T_cond_f rfl ?_
 refine T_exit rfl ?_
 refine Tsr hF rfl ?_
 refine lm rfl rfl rfl rfl rfl ?_
 refine lo rfl (pr_add (na_i64 (a := 1) (b := 2) sd) rfl rfl rfl) rfl rfl ?_
 refine lo rfl (pr_ixa (j := 3) (m' := 3) sd (by omega) Try.underlying75 (z := 1) kr rfl rfl rfl) rfl rfl ?_
 refine lq rfl (ld_blk 0 rfl rfl Try.underlying49 rfl rfl rfl) rfl rfl ?_
 refine lm rfl rfl rfl rfl rfl ?_
 refine lo rfl (pr_add (add64 _ _) rfl rfl rfl) rfl rfl ?_
 refine lo rfl (pr_ixa (j := 3) (m' := 3) sd (by omega) Try.underlying75 (z := 1) kr rfl rfl rfl) rfl rfl ?_
 refine L_op rfl (op_store (vs := [(b64 (0#64 + ((h49 + d52) + d57)))]) (cs' := [(b64 s14), (b64 s42), (b64 s56), (b64 (0#64 + ((h49 + d52) + d57))), (b64 (0#64))]) 0 rfl rfl kr (one_one rfl) (by first | decide | simp | exact Nat.le_refl _) rfl rfl rfl rfl rfl ?_)
 refine L_nil ?_
 refine Tsr hF rfl ?_
 refine lm rfl rfl rfl rfl rfl ?_
 refine lo rfl (pr_cmp (bo := .eql) (nc_eq (a := 1) (b := 2)) rfl rfl rfl rfl) rfl rfl ?_
 refine L_nil ?_
 refine T_cond_f rfl ?_
 refine T_skip ?_
 refine T_reg hF rfl ?_
 refine lo rfl (pr_add (na_i64 (a := 1) (b := 1) sd) rfl rfl rfl) rfl rfl ?_
 refine lm rfl rfl rfl rfl rfl ?_
 refine L_nil ?_
 refine T_round ?_
 refine Tsr hF rfl ?_
 refine lo rfl (pr_cmp (bo := .lss) (nc_lt (a := 2) (b := 3)) rfl rfl rfl rfl) rfl rfl ?_
 refine L_nil ?_
 refine T_seq ?_
 refine T_cond_t rfl ?_
 refine T_skip ?_
 refine T_seq ?_
 refine T_block ?_
 refine Tsr hF rfl ?_
 refine lm rfl rfl rfl rfl rfl ?_
 refine lo rfl (pr_ix (cs := [(b64 a0), (b64 a1), (b64 a2)]) (j := 2) sd rfl Try.underlying53 Try.underlying49 rfl kr rfl rfl rfl) rfl rfl ?_
 refine la rfl rfl rfl rfl rfl ?_
 refine la rfl rfl rfl rfl rfl ?_
 refine L_nil ?_
 refine Tsr hF rfl ?_
 refine la rfl rfl rfl rfl rfl ?_
 refine L_nil ?_
 refine T_seq ?_
 refine Tsr hF rfl ?_
 refine lq rfl (ld_agg (ds := [(b64 r0), (b64 r1)]) 2 rfl agg_all Try.underlying51 rfl kr rfl rfl) rfl rfl ?_
 refine lm rfl rfl rfl rfl rfl ?_
 refine L_nil ?_
 refine T_block ?_
 refine T_rounds 3 ?_
 refine T_round ?_
 refine Tsr hF rfl ?_
 refine lo rfl (pr_cmp (bo := .lss) (nc_lt (a := 0) (b := 2)) rfl rfl rfl rfl) rfl rfl ?_
 refine L_nil ?_
 refine T_seq ?_
 refine T_cond_t rfl ?_
 refine T_skip ?_
 refine T_seq ?_
 refine T_block ?_
 refine Tsr hF rfl ?_
 refine lm rfl rfl rfl rfl rfl ?_
 refine lo rfl (pr_ix (cs := [(b64 r0), (b64 r1)]) (j := 0) sd rfl Try.underlying51 Try.underlying49 rfl kr rfl rfl rfl) rfl rfl ?_
 refine la rfl rfl rfl rfl rfl ?_
 refine la rfl rfl rfl rfl rfl ?_
 refine L_nil ?_
 refine Tsr hF rfl ?_
 refine lm rfl rfl rfl rfl rfl ?_
 refine lm rfl rfl rfl rfl rfl ?_
 refine L_op rfl (op_cn (fun w hw => mul64_f a2 r0 w (hok_nil w) ) (enters_of Try.func51 kr rfl) rfl rfl rfl rfl rfl (fun t61 q62 => ?_))
 obtain ⟨h63, l64⟩ := t61
 have q62 : 18446744073709551616 * h63.toNat + l64.toNat = a2.toNat * r0.toNat := q62
 refine lm rfl rfl rfl rfl rfl ?_
 refine lo rfl (pr_ext (vs := [(b64 h63), (b64 l64)]) rfl rfl rfl) rfl rfl ?_
 refine lo rfl (pr_ext (vs := [(b64 h63), (b64 l64)]) rfl rfl rfl) rfl rfl ?_
 refine la rfl rfl rfl rfl rfl ?_
 refine la rfl rfl rfl rfl rfl ?_
 refine L_nil ?_
 refine Tsr hF rfl ?_
 refine la rfl rfl rfl rfl rfl ?_
 refine L_nil ?_
 refine Tsr hF rfl ?_
 refine lm rfl rfl rfl rfl rfl ?_
 refine lm rfl rfl rfl rfl rfl ?_
 obtain ⟨s65, d66, ha_67, hb_68, hv_69⟩ := add64_at l64 (0#64) (0#64) (by first | assumption | decide)
 refine lo rfl (pr_extern hv_69 rfl rfl rfl) rfl rfl ?_
 refine lm rfl rfl rfl rfl rfl ?_
 refine lo rfl (pr_ext (vs := [(b64 s65), (b64 d66)]) rfl rfl rfl) rfl rfl ?_
 refine lo rfl (pr_ext (vs := [(b64 s65), (b64 d66)]) rfl rfl rfl) rfl rfl ?_
 refine la rfl rfl rfl rfl rfl ?_
 refine la rfl rfl rfl rfl rfl ?_
 refine L_nil ?_
 refine Tsr hF rfl ?_
 refine lm rfl rfl rfl rfl rfl ?_
 refine lm rfl rfl rfl rfl rfl ?_
 refine lo rfl (pr_add (add64 _ _) rfl rfl rfl) rfl rfl ?_
 refine la rfl rfl rfl rfl rfl ?_
 refine L_nil ?_
 refine Tsr hF rfl ?_
 refine lm rfl rfl rfl rfl rfl ?_
 refine lm rfl rfl rfl rfl rfl ?_
 refine lo rfl (pr_add (na_i64 (a := 2) (b := 0) sd) rfl rfl rfl) rfl rfl ?_
 refine lm rfl rfl rfl rfl rfl ?_
 refine lm rfl rfl rfl rfl rfl ?_
 refine lo rfl (pr_add (na_i64 (a := 2) (b := 0) sd) rfl rfl rfl) rfl rfl ?_
 refine lo rfl (pr_ixa (j := 2) (m' := 2) sd (by omega) Try.underlying75 (z := 1) kr rfl rfl rfl) rfl rfl ?_
 refine lq rfl (ld_blk 0 rfl rfl Try.underlying49 rfl rfl rfl) rfl rfl ?_
 refine lm rfl rfl rfl rfl rfl ?_
 obtain ⟨s70, d71, ha_72, hb_73, hv_74⟩ := add64_at s56 s65 (0#64) (by first | assumption | decide)
 refine lo rfl (pr_extern hv_74 rfl rfl rfl) rfl rfl ?_
 refine lm rfl rfl rfl rfl rfl ?_
 refine lo rfl (pr_ext (vs := [(b64 s70), (b64 d71)]) rfl rfl rfl) rfl rfl ?_
 refine lo rfl (pr_ext (vs := [(b64 s70), (b64 d71)]) rfl rfl rfl) rfl rfl ?_
 refine lo rfl (pr_ixa (j := 2) (m' := 2) sd (by omega) Try.underlying75 (z := 1) kr rfl rfl rfl) rfl rfl ?_
 refine L_op rfl (op_store (vs := [(b64 s70)]) (cs' := [(b64 s14), (b64 s42), (b64 s70), (b64 (0#64 + ((h49 + d52) + d57))), (b64 (0#64))]) 0 rfl rfl kr (one_one rfl) (by first | decide | simp | exact Nat.le_refl _) rfl rfl rfl rfl rfl ?_)
 refine la rfl rfl rfl rfl rfl ?_
 refine L_nil ?_
 refine T_reg hF rfl ?_
 refine lm rfl rfl rfl rfl rfl ?_
 refine lm rfl rfl rfl rfl rfl ?_
 refine lo rfl (pr_add (add64 _ _) rfl rfl rfl) rfl rfl ?_
 refine la rfl rfl rfl rfl rfl ?_
 refine L_nil ?_
 refine T_reg hF rfl ?_
 refine lo rfl (pr_add (na_i64 (a := 0) (b := 1) sd) rfl rfl rfl) rfl rfl ?_
 refine lm rfl rfl rfl rfl rfl ?_
 refine L_nil ?_
 refine T_round ?_
 refine Tsr hF rfl ?_
 refine lo rfl (pr_cmp (bo := .lss) (nc_lt (a := 1) (b := 2)) rfl rfl rfl rfl) rfl rfl ?_
 refine L_nil ?_
 refine T_re [(3, (.pointer (some ⟨g2, 0, none⟩))), (4, (.pointer (some ⟨g3, 0, none⟩))), (5, (.pointer (some ⟨g4, 0, none⟩))), (6, (.int .i64 ((2 : Nat) : Int))), (7, (b64 a2)), (8, (b64 ((h63 + d66) + d71))), (17, (.agg [(b64 a0), (b64 a1), (b64 a2)].toArray)), (18, (.int .i64 ((2 : Nat) : Int))), (22, (.agg [(b64 r0), (b64 r1)].toArray)), (23, (.int .i64 ((1 : Nat) : Int))), (24, (.bool (decide (1 < 2))))] (sc rfl (sc rfl (sc rfl (sc rfl (sc rfl (sc rfl (sc rfl (sc rfl (sc rfl (sc rfl (sc rfl sn))))))))))) ?_
 refine T_he [0, 1, 2, 3] [.blk g4 75 [(b64 s14), (b64 s42), (b64 s70), (b64 (0#64 + ((h49 + d52) + d57))), (b64 (0#64))], .blk g3 53 [(b64 (0#64)), (b64 (0#64)), (b64 (0#64))], .blk g2 51 [(b64 r0), (b64 r1)], .blk g1 53 [(b64 a0), (b64 a1), (b64 a2)]] ⟨by decide, rfl⟩ ?_
 refine T_seq ?_
 refine T_cond_t rfl ?_
 refine T_skip ?_
 refine T_seq ?_
 refine T_block ?_
 refine Tsr hF rfl ?_
 refine lm rfl rfl rfl rfl rfl ?_
 refine lo rfl (pr_ix (cs := [(b64 r0), (b64 r1)]) (j := 1) sd rfl Try.underlying51 Try.underlying49 rfl kr rfl rfl rfl) rfl rfl ?_
 refine la rfl rfl rfl rfl rfl ?_
 refine la rfl rfl rfl rfl rfl ?_
 refine L_nil ?_
 refine Tsr hF rfl ?_
 refine lm rfl rfl rfl rfl rfl ?_
 refine lm rfl rfl rfl rfl rfl ?_
 refine L_op rfl (op_cn (fun w hw => mul64_f a2 r1 w (hok_nil w) ) (enters_of Try.func51 kr rfl) rfl rfl rfl rfl rfl (fun t75 q76 => ?_))
 obtain ⟨h77, l78⟩ := t75
 have q76 : 18446744073709551616 * h77.toNat + l78.toNat = a2.toNat * r1.toNat := q76
 refine lm rfl rfl rfl rfl rfl ?_
 refine lo rfl (pr_ext (vs := [(b64 h77), (b64 l78)]) rfl rfl rfl) rfl rfl ?_
 refine lo rfl (pr_ext (vs := [(b64 h77), (b64 l78)]) rfl rfl rfl) rfl rfl ?_
 refine la rfl rfl rfl rfl rfl ?_
 refine la rfl rfl rfl rfl rfl ?_
 refine L_nil ?_
 refine Tsr hF rfl ?_
 refine la rfl rfl rfl rfl rfl ?_
 refine L_nil ?_
 refine Tsr hF rfl ?_
 refine lm rfl rfl rfl rfl rfl ?_
 refine lm rfl rfl rfl rfl rfl ?_
 obtain ⟨s79, d80, ha_81, hb_82, hv_83⟩ := add64_at l78 ((h63 + d66) + d71) (0#64) (by first | assumption | decide)
 refine lo rfl (pr_extern hv_83 rfl rfl rfl) rfl rfl ?_
 refine lm rfl rfl rfl rfl rfl ?_
 refine lo rfl (pr_ext (vs := [(b64 s79), (b64 d80)]) rfl rfl rfl) rfl rfl ?_
 refine lo rfl (pr_ext (vs := [(b64 s79), (b64 d80)]) rfl rfl rfl) rfl rfl ?_
 refine la rfl rfl rfl rfl rfl ?_
 refine la rfl rfl rfl rfl rfl ?_
 refine L_nil ?_
 refine Tsr hF rfl ?_
 refine lm rfl rfl rfl rfl rfl ?_
 refine lm rfl rfl rfl rfl rfl ?_
 refine lo rfl (pr_add (add64 _ _) rfl rfl rfl) rfl rfl ?_
 refine la rfl rfl rfl rfl rfl ?_
 refine L_nil ?_
 refine Tsr hF rfl ?_
 refine lm rfl rfl rfl rfl rfl ?_
 refine lm rfl rfl rfl rfl rfl ?_
 refine lo rfl (pr_add (na_i64 (a := 2) (b := 1) sd) rfl rfl rfl) rfl rfl ?_
 refine lm rfl rfl rfl rfl rfl ?_
 refine lm rfl rfl rfl rfl rfl ?_
 refine lo rfl (pr_add (na_i64 (a := 2) (b := 1) sd) rfl rfl rfl) rfl rfl ?_
 refine lo rfl (pr_ixa (j := 3) (m' := 3) sd (by omega) Try.underlying75 (z := 1) kr rfl rfl rfl) rfl rfl ?_
 refine lq rfl (ld_blk 0 rfl rfl Try.underlying49 rfl rfl rfl) rfl rfl ?_
 refine lm rfl rfl rfl rfl rfl ?_
 obtain ⟨s84, d85, ha_86, hb_87, hv_88⟩ := add64_at (0#64 + ((h49 + d52) + d57)) s79 (0#64) (by first | assumption | decide)
 refine lo rfl (pr_extern hv_88 rfl rfl rfl) rfl rfl ?_
 refine lm rfl rfl rfl rfl rfl ?_
 refine lo rfl (pr_ext (vs := [(b64 s84), (b64 d85)]) rfl rfl rfl) rfl rfl ?_
 refine lo rfl (pr_ext (vs := [(b64 s84), (b64 d85)]) rfl rfl rfl) rfl rfl ?_
 refine lo rfl (pr_ixa (j := 3) (m' := 3) sd (by omega) Try.underlying75 (z := 1) kr rfl rfl rfl) rfl rfl ?_
 refine L_op rfl (op_store (vs := [(b64 s84)]) (cs' := [(b64 s14), (b64 s42), (b64 s70), (b64 s84), (b64 (0#64))]) 0 rfl rfl kr (one_one rfl) (by first | decide | simp | exact Nat.le_refl _) rfl rfl rfl rfl rfl ?_)
 refine la rfl rfl rfl rfl rfl ?_
 refine L_nil ?_
 refine T_reg hF rfl ?_
 refine lm rfl rfl rfl rfl rfl ?_
 refine lm rfl rfl rfl rfl rfl ?_
 refine lo rfl (pr_add (add64 _ _) rfl rfl rfl) rfl rfl ?_
 refine la rfl rfl rfl rfl rfl ?_
 refine L_nil ?_
 refine T_reg hF rfl ?_
 refine lo rfl (pr_add (na_i64 (a := 1) (b := 1) sd) rfl rfl rfl) rfl rfl ?_
 refine lm rfl rfl rfl rfl rfl ?_
 refine L_nil ?_
 refine T_round ?_
 refine Tsr hF rfl ?_
 refine lo rfl (pr_cmp (bo := .lss) (nc_lt (a := 2) (b := 2)) rfl rfl rfl rfl) rfl rfl ?_
 refine L_nil ?_
 refine T_seq ?_
 refine T_cond_f rfl ?_
 refine T_exit rfl ?_
 refine Tsr hF rfl ?_
 refine lm rfl rfl rfl rfl rfl ?_
 refine lo rfl (pr_add (na_i64 (a := 2) (b := 2) sd) rfl rfl rfl) rfl rfl ?_
 refine lo rfl (pr_ixa (j := 4) (m' := 4) sd (by omega) Try.underlying75 (z := 1) kr rfl rfl rfl) rfl rfl ?_
 refine lq rfl (ld_blk 0 rfl rfl Try.underlying49 rfl rfl rfl) rfl rfl ?_
 refine lm rfl rfl rfl rfl rfl ?_
 refine lo rfl (pr_add (add64 _ _) rfl rfl rfl) rfl rfl ?_
 refine lo rfl (pr_ixa (j := 4) (m' := 4) sd (by omega) Try.underlying75 (z := 1) kr rfl rfl rfl) rfl rfl ?_
 refine L_op rfl (op_store (vs := [(b64 (0#64 + ((h77 + d80) + d85)))]) (cs' := [(b64 s14), (b64 s42), (b64 s70), (b64 s84), (b64 (0#64 + ((h77 + d80) + d85)))]) 0 rfl rfl kr (one_one rfl) (by first | decide | simp | exact Nat.le_refl _) rfl rfl rfl rfl rfl ?_)
 refine L_nil ?_
 refine Tsr hF rfl ?_
 refine lm rfl rfl rfl rfl rfl ?_
 refine lo rfl (pr_cmp (bo := .eql) (nc_eq (a := 2) (b := 2)) rfl rfl rfl rfl) rfl rfl ?_
 refine L_nil ?_
 refine T_cond_t rfl ?_
 refine T_exit rfl ?_
 refine Tsr hF rfl ?_
 refine lo rfl (pr_ixa (j := 0) (m' := 0) sd (by omega) Try.underlying75 (z := 1) kr rfl rfl rfl) rfl rfl ?_
 refine lq rfl (ld_blk 0 rfl rfl Try.underlying49 rfl rfl rfl) rfl rfl ?_
 refine lo rfl (pr_ixa (j := 1) (m' := 1) sd (by omega) Try.underlying75 (z := 1) kr rfl rfl rfl) rfl rfl ?_
 refine lq rfl (ld_blk 0 rfl rfl Try.underlying49 rfl rfl rfl) rfl rfl ?_
 refine lo rfl (pr_ixa (j := 2) (m' := 2) sd (by omega) Try.underlying75 (z := 1) kr rfl rfl rfl) rfl rfl ?_
 refine lq rfl (ld_blk 0 rfl rfl Try.underlying49 rfl rfl rfl) rfl rfl ?_
 refine lo rfl (pr_and (ib_and64 _ (3#64)) rfl rfl rfl) rfl rfl ?_
 refine lo rfl (pr_build (qs := [(0, (b64 s14)), (1, (b64 s42)), (2, (b64 (s70 &&& 3#64)))]) (v := .agg [(b64 s14), (b64 s42), (b64 (s70 &&& 3#64))].toArray) (fun _ => by kernel_rfl) rfl rfl) rfl rfl ?_
 refine L_op rfl (op_alloc (z := .agg [(b64 (0#64)), (b64 (0#64)), (b64 (0#64))].toArray) (zs := [(b64 (0#64)), (b64 (0#64)), (b64 (0#64))]) kr rfl rfl rfl rfl (fun g89 => ?_))
 refine L_op rfl (op_sto (n := 3) (vs := [(b64 s14), (b64 s42), (b64 (s70 &&& 3#64))]) 0 rfl rfl kr (by simp [Value.oneCell']) kr kr rfl rfl rfl rfl ?_)
 refine L_nil ?_
 refine Tsr hF rfl ?_
 refine lo rfl (pr_ixa (j := 2) (m' := 2) sd (by omega) Try.underlying75 (z := 1) kr rfl rfl rfl) rfl rfl ?_
 refine lq rfl (ld_blk 1 rfl rfl Try.underlying49 rfl rfl rfl) rfl rfl ?_
 refine lo rfl (pr_andNot (ib_andNot64 _ (3#64)) rfl rfl rfl) rfl rfl ?_
 refine lo rfl (pr_ixa (j := 3) (m' := 3) sd (by omega) Try.underlying75 (z := 1) kr rfl rfl rfl) rfl rfl ?_
 refine lq rfl (ld_blk 1 rfl rfl Try.underlying49 rfl rfl rfl) rfl rfl ?_
 refine lo rfl (pr_ixa (j := 4) (m' := 4) sd (by omega) Try.underlying75 (z := 1) kr rfl rfl rfl) rfl rfl ?_
 refine lq rfl (ld_blk 1 rfl rfl Try.underlying49 rfl rfl rfl) rfl rfl ?_
 refine lo rfl (pr_build (qs := [(0, (b64 (s70 &&& ~~~3#64))), (1, (b64 s84)), (2, (b64 (0#64 + ((h77 + d80) + d85))))]) (v := .agg [(b64 (s70 &&& ~~~3#64)), (b64 s84), (b64 (0#64 + ((h77 + d80) + d85)))].toArray) (fun _ => by kernel_rfl) rfl rfl) rfl rfl ?_
 refine L_op rfl (op_alloc (z := .agg [(b64 (0#64)), (b64 (0#64)), (b64 (0#64))].toArray) (zs := [(b64 (0#64)), (b64 (0#64)), (b64 (0#64))]) kr rfl rfl rfl rfl (fun g90 => ?_))
 refine L_op rfl (op_sto (n := 3) (vs := [(b64 (s70 &&& ~~~3#64)), (b64 s84), (b64 (0#64 + ((h77 + d80) + d85)))]) 0 rfl rfl kr (by simp [Value.oneCell']) kr kr rfl rfl rfl rfl ?_)
 refine L_nil ?_
 refine Tsr hF rfl ?_
 refine lo rfl (pr_ixa (j := 0) (m' := 0) sd (by omega) Try.underlying53 (z := 1) kr rfl rfl rfl) rfl rfl ?_
 refine lq rfl (ld_blk 0 rfl rfl Try.underlying49 rfl rfl rfl) rfl rfl ?_
 refine lo rfl (pr_shift (sh_shr64 (s70 &&& ~~~3#64) _ 2) rfl rfl rfl rfl) rfl rfl ?_
 refine lo rfl (pr_ixa (j := 1) (m' := 1) sd (by omega) Try.underlying53 (z := 1) kr rfl rfl rfl) rfl rfl ?_
 refine lq rfl (ld_blk 0 rfl rfl Try.underlying49 rfl rfl rfl) rfl rfl ?_
 refine lo rfl (pr_shift (sh_shl64 s84 _ 62) rfl rfl rfl rfl) rfl rfl ?_
 refine lo rfl (pr_or (ib_or64 _ _) rfl rfl rfl) rfl rfl ?_
 refine lo rfl (pr_ixa (j := 1) (m' := 1) sd (by omega) Try.underlying53 (z := 1) kr rfl rfl rfl) rfl rfl ?_
 refine lq rfl (ld_blk 0 rfl rfl Try.underlying49 rfl rfl rfl) rfl rfl ?_
 refine lo rfl (pr_shift (sh_shr64 s84 _ 2) rfl rfl rfl rfl) rfl rfl ?_
 refine lo rfl (pr_ixa (j := 2) (m' := 2) sd (by omega) Try.underlying53 (z := 1) kr rfl rfl rfl) rfl rfl ?_
 refine lq rfl (ld_blk 0 rfl rfl Try.underlying49 rfl rfl rfl) rfl rfl ?_
 refine lo rfl (pr_shift (sh_shl64 (0#64 + ((h77 + d80) + d85)) _ 62) rfl rfl rfl rfl) rfl rfl ?_
 refine lo rfl (pr_or (ib_or64 _ _) rfl rfl rfl) rfl rfl ?_
 refine lo rfl (pr_ixa (j := 2) (m' := 2) sd (by omega) Try.underlying53 (z := 1) kr rfl rfl rfl) rfl rfl ?_
 refine lq rfl (ld_blk 0 rfl rfl Try.underlying49 rfl rfl rfl) rfl rfl ?_
 refine lo rfl (pr_shift (sh_shr64 (0#64 + ((h77 + d80) + d85)) _ 2) rfl rfl rfl rfl) rfl rfl ?_
 refine lo rfl (pr_build (qs := [(0, (b64 (((s70 &&& ~~~3#64) >>> 2) ||| (s84 <<< 62)))), (1, (b64 ((s84 >>> 2) ||| ((0#64 + ((h77 + d80) + d85)) <<< 62)))), (2, (b64 ((0#64 + ((h77 + d80) + d85)) >>> 2)))]) (v := .agg [(b64 (((s70 &&& ~~~3#64) >>> 2) ||| (s84 <<< 62))), (b64 ((s84 >>> 2) ||| ((0#64 + ((h77 + d80) + d85)) <<< 62))), (b64 ((0#64 + ((h77 + d80) + d85)) >>> 2))].toArray) (fun _ => by kernel_rfl) rfl rfl) rfl rfl ?_
 refine L_op rfl (op_alloc (z := .agg [(b64 (0#64)), (b64 (0#64)), (b64 (0#64))].toArray) (zs := [(b64 (0#64)), (b64 (0#64)), (b64 (0#64))]) kr rfl rfl rfl rfl (fun g91 => ?_))
 refine L_op rfl (op_sto (n := 3) (vs := [(b64 (((s70 &&& ~~~3#64) >>> 2) ||| (s84 <<< 62))), (b64 ((s84 >>> 2) ||| ((0#64 + ((h77 + d80) + d85)) <<< 62))), (b64 ((0#64 + ((h77 + d80) + d85)) >>> 2))]) 0 rfl rfl kr (by simp [Value.oneCell']) kr kr rfl rfl rfl rfl ?_)
 refine L_nil ?_
 refine T_seq ?_
 refine T_regD [.blk g91 53 [(b64 (((s70 &&& ~~~3#64) >>> 2) ||| (s84 <<< 62))), (b64 ((s84 >>> 2) ||| ((0#64 + ((h77 + d80) + d85)) <<< 62))), (b64 ((0#64 + ((h77 + d80) + d85)) >>> 2))], .blk g90 53 [(b64 (s70 &&& ~~~3#64)), (b64 s84), (b64 (0#64 + ((h77 + d80) + d85)))], .blk g89 53 [(b64 s14), (b64 s42), (b64 (s70 &&& 3#64))], .blk g4 75 [(b64 s14), (b64 s42), (b64 s70), (b64 s84), (b64 (0#64 + ((h77 + d80) + d85)))], .blk g3 53 [(b64 (0#64)), (b64 (0#64)), (b64 (0#64))], .blk g2 51 [(b64 r0), (b64 r1)], .blk g1 53 [(b64 a0), (b64 a1), (b64 a2)]] 15 16 #[false, false, false, false, false, false, false, false, false, false, false, false, false, false, false, false] hF kr kr ?_
 refine D_pure (i := 1) [0, 1, 2, 3, 4, 5, 6] rfl kr rfl (pr_ixa (j := 0) (m' := 0) sd (by omega) Try.underlying53 (z := 1) kr rfl rfl rfl) (.inr rfl) rfl rfl ?_
 refine D_pure (i := 3) [0, 1, 2, 3, 4, 5, 6] rfl kr rfl (pr_ixa (j := 1) (m' := 1) sd (by omega) Try.underlying53 (z := 1) kr rfl rfl rfl) (.inr rfl) rfl rfl ?_
 refine D_pure (i := 5) [0, 1, 2, 3, 4, 5, 6] rfl kr rfl (pr_ixa (j := 2) (m' := 2) sd (by omega) Try.underlying53 (z := 1) kr rfl rfl rfl) (.inr rfl) rfl rfl ?_
 refine D_pure (i := 8) [0, 1, 2, 3, 4, 5, 6] rfl kr rfl (pr_ixa (j := 0) (m' := 0) sd (by omega) Try.underlying53 (z := 1) kr rfl rfl rfl) (.inr rfl) rfl rfl ?_
 refine D_pure (i := 10) [0, 1, 2, 3, 4, 5, 6] rfl kr rfl (pr_ixa (j := 1) (m' := 1) sd (by omega) Try.underlying53 (z := 1) kr rfl rfl rfl) (.inr rfl) rfl rfl ?_
 refine D_pure (i := 12) [0, 1, 2, 3, 4, 5, 6] rfl kr rfl (pr_ixa (j := 2) (m' := 2) sd (by omega) Try.underlying53 (z := 1) kr rfl rfl rfl) (.inr rfl) rfl rfl ?_
 refine D_take (i := 0) [0, 1, 2, 3, 4, 5, 6] rfl kr rfl (ld_agg (ds := [(b64 s14), (b64 s42), (b64 (s70 &&& 3#64))]) 2 rfl agg_all Try.underlying53 rfl kr rfl rfl) rfl rfl rfl ?_
 refine D_take (i := 2) [0, 1, 2, 3, 4, 5, 6] rfl kr rfl (ld_blk 1 rfl rfl Try.underlying49 rfl rfl rfl) rfl rfl rfl ?_
 refine D_take (i := 4) [0, 1, 2, 3, 4, 5, 6] rfl kr rfl (ld_blk 1 rfl rfl Try.underlying49 rfl rfl rfl) rfl rfl rfl ?_
 refine D_take (i := 6) [0, 1, 2, 3, 4, 5, 6] rfl kr rfl (ld_blk 1 rfl rfl Try.underlying49 rfl rfl rfl) rfl rfl rfl ?_
 refine D_take (i := 9) [0, 1, 2, 3, 4, 5, 6] rfl kr rfl (ld_blk 0 rfl rfl Try.underlying49 rfl rfl rfl) rfl rfl rfl ?_
 refine D_take (i := 11) [0, 1, 2, 3, 4, 5, 6] rfl kr rfl (ld_blk 0 rfl rfl Try.underlying49 rfl rfl rfl) rfl rfl rfl ?_
 refine D_take (i := 13) [0, 1, 2, 3, 4, 5, 6] rfl kr rfl (ld_blk 0 rfl rfl Try.underlying49 rfl rfl rfl) rfl rfl rfl ?_
 refine D_one 7 _ rfl kr rfl (op_cn (fun w hw => plus_f s14 s42 (s70 &&& 3#64) (s70 &&& ~~~3#64) s84 (0#64 + ((h77 + d80) + d85)) w (hok_nil w) (side_a s70 (top_zero (times_bits (mac_bits q6 ha_11 ha_16) (mac_bits q20 ha_25 ha_30) (mac_bits q34 ha_39 ha_44) (mac_bits q48 ha_53 ha_58) (mac_bits q62 ha_67 ha_72) (mac_bits q76 ha_81 ha_86)) (Nat.mul_lt_mul'' ha hr)))) (enters_of Try.func35 kr rfl) rfl rfl rfl rfl rfl (fun t92 q93 => ?_))
 obtain ⟨b0_94, b1_95, b2_96⟩ := t92
 have q93 : v3 b0_94 b1_95 b2_96 = v3 s14 s42 (s70 &&& 3#64) + v3 (s70 &&& ~~~3#64) s84 (0#64 + ((h77 + d80) + d85)) := q93
 refine D_on [0, 1, 2, 3, 4, 5, 6] rfl ?_
 refine D_one 14 _ rfl kr rfl (op_cn (fun w hw => plus_f b0_94 b1_95 b2_96 (((s70 &&& ~~~3#64) >>> 2) ||| (s84 <<< 62)) ((s84 >>> 2) ||| ((0#64 + ((h77 + d80) + d85)) <<< 62)) ((0#64 + ((h77 + d80) + d85)) >>> 2) w (hok_nil w) (side_b q93 (top_zero (times_bits (mac_bits q6 ha_11 ha_16) (mac_bits q20 ha_25 ha_30) (mac_bits q34 ha_39 ha_44) (mac_bits q48 ha_53 ha_58) (mac_bits q62 ha_67 ha_72) (mac_bits q76 ha_81 ha_86)) (Nat.mul_lt_mul'' ha hr)))) (enters_of Try.func35 kr rfl) rfl rfl rfl rfl rfl (fun t97 q98 => ?_))
 obtain ⟨b0_99, b1_100, b2_101⟩ := t97
 have q98 : v3 b0_99 b1_100 b2_101 = v3 b0_94 b1_95 b2_96 + v3 (((s70 &&& ~~~3#64) >>> 2) ||| (s84 <<< 62)) ((s84 >>> 2) ||| ((0#64 + ((h77 + d80) + d85)) <<< 62)) ((0#64 + ((h77 + d80) + d85)) >>> 2) := q98
 refine D_on [0, 1, 2, 3, 4, 5, 6] rfl ?_
 refine D_one 15 _ rfl kr rfl (op_sto (n := 3) (vs := [(b64 b0_99), (b64 b1_100), (b64 b2_101)]) 4 rfl rfl kr (by simp [Value.oneCell']) kr kr rfl rfl rfl rfl ?_)
 refine D_past kr ?_
 refine D_done kr ?_
 refine T_ret ?_
 exact T_fin (b0_99, b1_100, b2_101) (times_fin (times_bits (mac_bits q6 ha_11 ha_16) (mac_bits q20 ha_25 ha_30) (mac_bits q34 ha_39 ha_44) (mac_bits q48 ha_53 ha_58) (mac_bits q62 ha_67 ha_72) (mac_bits q76 ha_81 ha_86)) (Nat.mul_lt_mul'' ha hr) q93 q98) (resb 0 rfl rfl rfl Try.underlying53 rfl kr) [] ⟨by decide, rfl⟩ rfl
end Go.Proofs.Ytemjinkdfjoicaa
