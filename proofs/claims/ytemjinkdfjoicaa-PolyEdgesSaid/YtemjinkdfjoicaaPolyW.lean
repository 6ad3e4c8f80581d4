/- Plain laws for the statements of layer 6. No conditions. -/
import Derived.Test.YtemjinkdfjoicaaPolyT
namespace Go.Proofs.Ytemjinkdfjoicaa
set_option linter.unusedVariables false
set_option linter.unusedSimpArgs false
open Bv Fw
theorem ptag_nil (key : List (BitVec 8)) (h : key.length = 32) : ptag key [] = List.take 16 (List.drop 16 key) := by
  rw [ptag_def, List.length_nil, show (0 + 15) / 16 = 0 from rfl, pacc_zero, Nat.zero_add]
  unfold ps
  exact dig_vw _ 16 (by simp; omega)
/-- A key whose first half is a number. -/
def onek (c : BitVec 8) (half : List (BitVec 8)) (i : Nat) : List (BitVec 8) := (c :: List.replicate 15 0#8) ++ prez half 16 i
theorem onek_len (c : BitVec 8) (half : List (BitVec 8)) (i : Nat) (h : half.length = 16) (hi : i ≤ 16) : (onek c half i).length = 32 := by
  unfold onek; rw [List.length_append, prez_len half 16 i h hi]; rfl
theorem onek_zero (c : BitVec 8) (half : List (BitVec 8)) : (List.replicate 32 0#8).set 0 c = onek c half 0 := by
  unfold onek; rw [← prez_zero]; rfl
theorem onek_set (c : BitVec 8) (half : List (BitVec 8)) (i : Nat) (h : half.length = 16) (hi : i < 16) : (onek c half i).set (16 + i) (ath half i) = onek c half (i + 1) := by
  unfold onek
  rw [List.set_append_right _ _ (by simp)]
  congr 1
  rw [show 16 + i - (c :: List.replicate 15 0#8).length = i by simp]
  exact prez_set half 16 i h hi _ rfl
theorem onek_half (c : BitVec 8) (half : List (BitVec 8)) (h : half.length = 16) : List.take 16 (List.drop 16 (onek c half 16)) = half := by
  unfold onek
  rw [prez_all half 16 h, List.drop_append_of_le_length (by simp), List.drop_of_length_le (by simp), List.nil_append, List.take_of_length_le (by omega)]
theorem onek_ps (c : BitVec 8) (half : List (BitVec 8)) (h : half.length = 16) : ps (onek c half 16) = vw half := by
  unfold ps; rw [onek_half c half h]
theorem onek_pr (c : BitVec 8) (half : List (BitVec 8)) (h : half.length = 16) : pr (onek c half 16) = c.toNat := by
  unfold pr
  have e : clampb (onek c half 16) = c :: List.replicate 15 0#8 := by
    refine ext_ath (by rw [clampb_len]; rfl) (fun j hj => ?_)
    rw [clampb_len] at hj
    have hz : ath (onek c half 16) j = ath (c :: List.replicate 15 0#8) j := by
      unfold onek; exact ath_app_l _ _ _ (by simp; omega)
    rw [clampb_at _ _ hj, hz]
    by_cases h0 : j = 0
    · subst h0; simp
    · obtain ⟨i, rfl⟩ : ∃ i, j = i + 1 := ⟨j - 1, by omega⟩
      have hr : ath (List.replicate 15 0#8) i = 0 := ath_repz 15 i
      rw [ath_consS, hr]
      split
      · rfl
      · split <;> rfl
  have hr0 : vw (List.replicate 15 0#8) = 0 := vw_rep0 15
  rw [e, vw_cons, hr0]
  simp
theorem ptag_mul (c : BitVec 8) (half b : List (BitVec 8)) (h : half.length = 16) (hb : b.length = 16) (hs : (vw b + 256 ^ 16) * c.toNat < 1361129467683753853853498429727072845819) : ptag (onek c half 16) b = dig 8 16 (vw half + c.toNat * vw b) := by
  have hP : polyP = 1361129467683753853853498429727072845819 := by rw [polyP_eq]
  have hblk : pblk b 0 = b := by unfold pblk; rw [Nat.mul_zero, List.drop_zero, List.take_of_length_le (by omega)]
  have hpv : pv b = vw b + 256 ^ 16 := by unfold pv; rw [hb]
  rw [ptag_def, hb, show (16 + 15) / 16 = 0 + 1 from rfl, pacc_succ, pacc_zero, hblk, hpv, onek_pr c half h, onek_ps c half h, Nat.zero_add, hP, Nat.mod_eq_of_lt hs, ← dig_mod 8 16 _ 16 (Nat.le_refl _), ← dig_mod 8 16 (vw half + c.toNat * vw b) 16 (Nat.le_refl _)]
  congr 1
  rw [Nat.add_mul, Nat.mul_comm (256 ^ 16) c.toNat, Nat.mul_comm (vw b)]
  have : c.toNat * vw b + c.toNat * 256 ^ 16 + vw half = vw half + c.toNat * vw b + c.toNat * 256 ^ 16 := by omega
  rw [this, Nat.add_mul_mod_self_right]
theorem ptag_one (half b : List (BitVec 8)) (h : half.length = 16) (hb : b.length = 16) : ptag (onek 1#8 half 16) b = dig 8 16 (vw half + 1 * vw b) := by
  have h1 := vw_lt b
  rw [hb] at h1
  have h2 : (256 : Nat) ^ 16 = 340282366920938463463374607431768211456 := rfl
  exact ptag_mul 1#8 half b h hb (by rw [h2] at *; have : (1#8).toNat = 1 := rfl; rw [this]; omega)
theorem vw_top (b : List (BitVec 8)) (hb : b.length = 16) : vw (b.set 15 (ath b 15 &&& 127#8)) < 2 ^ 127 := by
  have hl : (b.set 15 (ath b 15 &&& 127#8)).length = 16 := by rw [List.length_set, hb]
  have h1 := vw_take_succ (b.set 15 (ath b 15 &&& 127#8)) 15 (by omega)
  rw [List.take_of_length_le (by omega), ath_set _ _ _ _ (by omega), if_pos rfl] at h1
  have h2 := vw_lt ((b.set 15 (ath b 15 &&& 127#8)).take 15)
  rw [List.length_take, hl] at h2
  have h3 := and_le_l (ath b 15) 127#8
  have h4 : (127#8).toNat = 127 := rfl
  have h5 : min 15 16 = 15 := rfl
  have h6 : (256 : Nat) ^ 15 = 1329227995784915872903807060280344576 := rfl
  have h7 : (2 : Nat) ^ 127 = 170141183460469231731687303715884105728 := rfl
  rw [h5, h6] at h2
  rw [h6] at h1
  rw [h7]
  omega
theorem ptag_two (half b : List (BitVec 8)) (h : half.length = 16) (hb : b.length = 16) : ptag (onek 2#8 half 16) (b.set 15 (ath b 15 &&& 127#8)) = dig 8 16 (vw half + 2 * vw (b.set 15 (ath b 15 &&& 127#8))) := by
  have h1 := vw_top b hb
  have h2 : (256 : Nat) ^ 16 = 340282366920938463463374607431768211456 := rfl
  have h7 : (2 : Nat) ^ 127 = 170141183460469231731687303715884105728 := rfl
  rw [h7] at h1
  exact ptag_mul 2#8 half _ h (by rw [List.length_set, hb]) (by rw [h2]; have : (2#8).toNat = 2 := rfl; rw [this]; omega)
/-- What is carried to place i of one text and so many times another one. -/
def cq (x y : List (BitVec 8)) (m i : Nat) : Nat := (vw (x.take i) + m * vw (y.take i)) / 256 ^ i
theorem cq_zero (x y : List (BitVec 8)) (m : Nat) : cq x y m 0 = 0 := by unfold cq; rw [List.take_zero, List.take_zero, vw_nil]; simp
theorem cq_succ (x y : List (BitVec 8)) (m i : Nat) (hx : i < x.length) (hy : i < y.length) : cq x y m (i + 1) = (cq x y m i + (ath x i).toNat + m * (ath y i).toNat) / 256 := by
  unfold cq
  rw [vw_take_succ x i hx, vw_take_succ y i hy, Nat.pow_succ, ← Nat.div_div_eq_div_mul, Nat.mul_add]
  have e : vw (List.take i x) + 256 ^ i * (ath x i).toNat + (m * vw (List.take i y) + m * (256 ^ i * (ath y i).toNat)) = vw (List.take i x) + m * vw (List.take i y) + 256 ^ i * ((ath x i).toNat + m * (ath y i).toNat) := by
    rw [Nat.mul_add, Nat.mul_left_comm m]; omega
  rw [e, Nat.add_mul_div_left _ _ (Nat.pow_pos (by omega))]
  congr 1
  omega
theorem cq_le (x y : List (BitVec 8)) (m : Nat) : ∀ i, i ≤ x.length → i ≤ y.length → cq x y m i ≤ 255 * (m + 1)
  | 0, _, _ => by rw [cq_zero]; omega
  | i + 1, hx, hy => by
    rw [cq_succ x y m i (by omega) (by omega)]
    have h1 := cq_le x y m i (by omega) (by omega)
    have h2 := (ath x i).isLt
    have h3 : m * (ath y i).toNat ≤ m * 255 := Nat.mul_le_mul_left _ (by have := (ath y i).isLt; omega)
    omega
theorem cq_dig (x y : List (BitVec 8)) (m i n : Nat) (hx : x.length = n) (hy : y.length = n) (hi : i < n) : ath (dig 8 n (vw x + m * vw y)) i = BitVec.ofNat 8 (cq x y m i + (ath x i).toNat + m * (ath y i).toNat) := by
  rw [dig_at _ _ _ _ hi]
  apply BitVec.eq_of_toNat_eq
  rw [BitVec.toNat_ofNat, BitVec.toNat_ofNat]
  have hp : 0 < 256 ^ i := Nat.pow_pos (by omega)
  have ex := vw_split x i (by omega)
  have ey := vw_split y i (by omega)
  have e : vw x + m * vw y = vw (x.take i) + m * vw (y.take i) + 256 ^ i * ((ath x i).toNat + m * (ath y i).toNat + 256 * (vw (x.drop (i + 1)) + m * vw (y.drop (i + 1)))) := by
    rw [ex, ey]
    simp only [Nat.mul_add]
    rw [Nat.mul_left_comm m (256 ^ i) (ath y i).toNat, Nat.mul_left_comm m (256 ^ i) (256 * vw (y.drop (i + 1))), Nat.mul_left_comm m 256]
    omega
  rw [e, Nat.add_mul_div_left _ _ hp]
  unfold cq
  omega
/-- What is clamped stays clamped, and what is clamped off plays no part. -/
def kcl (key : List (BitVec 8)) (i : Nat) : List (BitVec 8) := (clampb key).take i ++ key.drop i
theorem kcl_len (key : List (BitVec 8)) (i : Nat) (h : key.length = 32) (hi : i ≤ 16) : (kcl key i).length = 32 := by
  unfold kcl; rw [List.length_append, List.length_take, List.length_drop, clampb_len]; omega
theorem kcl_zero (key : List (BitVec 8)) : kcl key 0 = key := by unfold kcl; simp
theorem kcl_set (key : List (BitVec 8)) (i : Nat) (h : key.length = 32) (hi : i < 16) : (kcl key i).set i (ath (clampb key) i) = kcl key (i + 1) := by
  unfold kcl
  have hl : ((clampb key).take i).length = i := by rw [List.length_take, clampb_len]; omega
  rw [List.set_append_right _ _ (by omega), hl, Nat.sub_self, List.drop_eq_getElem_cons (by omega), List.set_cons_zero, take_succ_ath _ _ (by rw [clampb_len]; exact hi), List.append_assoc]
  rfl
theorem kcl_at (key : List (BitVec 8)) (j : Nat) (hj : j < 16) : ath (kcl key 16) j = ath (clampb key) j := by
  unfold kcl
  rw [ath_app_l _ _ _ (by rw [List.length_take, clampb_len]; omega), ath_take _ _ _ hj]
theorem and_and_same (x b : BitVec 8) : x &&& b &&& b = x &&& b := by rw [BitVec.and_assoc, BitVec.and_self]
theorem clampb_kcl (key : List (BitVec 8)) : clampb (kcl key 16) = clampb key := by
  refine ext_ath (by rw [clampb_len, clampb_len]) (fun j hj => ?_)
  rw [clampb_len] at hj
  rw [clampb_at _ _ hj, kcl_at _ _ hj, clampb_at _ _ hj]
  split
  · rw [and_and_same]
  · split
    · rw [and_and_same]
    · rfl
theorem ptag_kcl (key t : List (BitVec 8)) (h : key.length = 32) : ptag (kcl key 16) t = ptag key t := by
  have h1 : pr (kcl key 16) = pr key := by unfold pr; rw [clampb_kcl]
  have h2 : ps (kcl key 16) = ps key := by
    unfold ps kcl
    congr 2
    rw [List.drop_append_of_le_length (by rw [List.length_take, clampb_len]; omega), List.drop_of_length_le (by rw [List.length_take, clampb_len]; omega), List.nil_append]
  rw [ptag_def, ptag_def, h1, h2]
attribute [irreducible] onek cq kcl
end Go.Proofs.Ytemjinkdfjoicaa
