/- HMAC with SHA-256, in plain words. No conditions. -/
import Derived.Test.YtmhkmamenfmolaaRef2P
import Derived.Test.YtmhkmamenfmolaaFwN
namespace Go.Proofs.Ytmhkmamenfmolaa
set_option linter.unusedVariables false
set_option linter.unusedSimpArgs false
open Bv Fw
theorem ath_range (f : Nat → BitVec 8) (n j : Nat) (h : j < n) : ath ((List.range n).map f) j = f j := by
  rw [ath_get _ _ (by simpa using h)]; simp
theorem ath_out (xs : List (BitVec 8)) (j : Nat) (h : xs.length ≤ j) : ath xs j = 0#8 := by
  simp [ath, List.getD_eq_getElem?_getD, h]
theorem ath_rep0 (n j : Nat) : ath (List.replicate n 0#8) j = 0#8 := by
  unfold ath
  rw [List.getD_eq_getElem?_getD, List.getElem?_replicate]
  split <;> rfl
/-- A key, padded, and turned by a byte: the first i of them. -/
def htn (k : List (BitVec 8)) (x : BitVec 8) (i : Nat) : List (BitVec 8) := (List.range 64).map fun j => if j < i then ath k j ^^^ x else ath k j
def hpad (k : List (BitVec 8)) (x : BitVec 8) : List (BitVec 8) := (List.range 64).map fun j => ath k j ^^^ x
theorem htn_len (k : List (BitVec 8)) (x : BitVec 8) (i : Nat) : (htn k x i).length = 64 := by simp [htn]
theorem hpad_len (k : List (BitVec 8)) (x : BitVec 8) : (hpad k x).length = 64 := by simp [hpad]
theorem hpad_at (k : List (BitVec 8)) (x : BitVec 8) (j : Nat) (h : j < 64) : ath (hpad k x) j = ath k j ^^^ x := ath_range _ _ _ h
theorem htn_at (k : List (BitVec 8)) (x : BitVec 8) (i j : Nat) (h : j < 64) : ath (htn k x i) j = if j < i then ath k j ^^^ x else ath k j := ath_range _ _ _ h
theorem htn_all (k : List (BitVec 8)) (x : BitVec 8) : htn k x 64 = hpad k x := by
  refine ext_ath (by rw [htn_len, hpad_len]) (fun j hj => ?_)
  rw [htn_len] at hj
  rw [htn_at _ _ _ _ hj, hpad_at _ _ _ hj, if_pos hj]
theorem htn_set (k : List (BitVec 8)) (x : BitVec 8) (i : Nat) (h : i < 64) : (htn k x i).set i (ath (htn k x i) i ^^^ x) = htn k x (i + 1) := by
  refine ext_ath (by simp [htn_len]) (fun j hj => ?_)
  rw [List.length_set, htn_len] at hj
  rw [ath_set _ _ _ _ (by rw [htn_len]; exact h), htn_at _ _ _ _ hj, htn_at _ _ _ _ hj, htn_at _ _ _ _ h]
  by_cases e : i = j
  · subst e; simp
  · rw [if_neg e]
    by_cases e2 : j < i
    · rw [if_pos e2, if_pos (by omega)]
    · rw [if_neg e2, if_neg (by omega)]
theorem htn_zero (k : List (BitVec 8)) (x : BitVec 8) (n m : Nat) (hk : k.length = n) (hn : n ≤ 64) (hm : m = n) : cop (List.replicate 64 0#8) 0 k m = htn k x 0 := by
  subst hm
  have e : cop (List.replicate 64 0#8) 0 k m = k ++ List.replicate (64 - m) 0#8 := by
    unfold cop
    rw [List.take_of_length_le (l := k) (by omega), hk, List.drop_replicate]
    simp only [List.take_zero, List.nil_append, Nat.zero_add]
  rw [e]
  refine ext_ath (by simp [htn_len]; omega) (fun j hj => ?_)
  have hj2 : j < 64 := by simp at hj; omega
  rw [htn_at _ _ _ _ hj2, if_neg (by omega)]
  by_cases h : j < k.length
  · rw [ath_app_l _ _ _ h]
  · rw [ath_app_r _ _ _ (by omega), ath_out k j (by omega)]
    exact ath_rep0 _ _
theorem hpre_set (k : List (BitVec 8)) (x c : BitVec 8) (i : Nat) (h : i < 64) (hc : c = ath k i) : (pre0 (hpad k x) 64 i).set i (c ^^^ x) = pre0 (hpad k x) 64 (i + 1) :=
  pre0_set _ _ _ (hpad_len k x) h _ (by rw [hpad_at _ _ _ h, hc])
def mackey (k : List (BitVec 8)) : List (BitVec 8) := if 64 < k.length then shasum k else k
/-- The tag of a key and a text. -/
def mactag (k t : List (BitVec 8)) : List (BitVec 8) := shasum (hpad (mackey k) 0x5c#8 ++ shasum (hpad (mackey k) 0x36#8 ++ t))
theorem mactag_len (k t : List (BitVec 8)) : (mactag k t).length = 32 := shasum_len _
theorem mactag_long (k t : List (BitVec 8)) (h : 64 < k.length) : shasum (hpad (shasum k) 0x5c#8 ++ shasum (hpad (shasum k) 0x36#8 ++ t)) = mactag k t := by unfold mactag mackey; rw [if_pos h]
theorem mactag_short (k t : List (BitVec 8)) (h : ¬ 64 < k.length) : shasum (hpad k 0x5c#8 ++ shasum (hpad k 0x36#8 ++ t)) = mactag k t := by unfold mactag mackey; rw [if_neg h]
attribute [irreducible] htn hpad mactag mackey
end Go.Proofs.Ytmhkmamenfmolaa
