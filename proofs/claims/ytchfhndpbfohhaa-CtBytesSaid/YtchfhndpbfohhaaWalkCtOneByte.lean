/- The walk of the law CtOneByte. No conditions. -/
import Derived.Test.YtchfhndpbfohhaaWalkCtNums
import Derived.Test.YtchfhndpbfohhaaHelp
namespace Go.Proofs.Ytchfhndpbfohhaa
set_option linter.unusedVariables false
set_option linter.unusedSimpArgs false
open Go.RowKit Bv
attribute [local go_sem] n8_beq n8_bne xor8 xorl8 or8 cv8_64 i64_u64

theorem set_same (xs : List (BitVec 8)) (k : Nat) (v : BitVec 8) (hk : k < xs.length) : xs = xs.set k (ath xs k ^^^ v) ↔ v = 0#8 := by
  constructor
  · intro e
    have e2 := congrArg (fun z => ath z k) e
    simp only [ath_set xs k k _ hk, if_pos] at e2
    have e3 : ath xs k ^^^ v ^^^ ath xs k = 0#8 := by rw [← e2]; simp
    rw [BitVec.xor_comm, ← BitVec.xor_assoc, BitVec.xor_self, BitVec.zero_xor] at e3
    exact e3
  · rintro rfl
    refine ext_ath (by simp) (fun j hj => ?_)
    rw [ath_set xs k j _ hk]
    by_cases hkj : k = j
    · subst hkj; simp
    · rw [if_neg hkj]
theorem eqb_yes (xs : List (BitVec 8)) : eqb xs xs = 1#64 := if_pos rfl
theorem eqb_no {xs ys : List (BitVec 8)} (h : xs ≠ ys) : eqb xs ys = 0#64 := if_neg h
theorem eqb_more (xs : List (BitVec 8)) (x : BitVec 8) : eqb xs (xs ++ [x]) = 0#64 := eqb_no (fun e => by have := congrArg List.length e; simp at this)

theorem onebyte_yes (A : Option Addr) (n c : Nat) (xs : List (BitVec 8)) (at_ : BitVec 64) (by_ more : BitVec 8) (w : World) (h : Rd b8 w A n c xs) (h0 : 0 < n) (h5 : n ≤ 2000)
    (hbb : (n8 by_ == 0) = true) (hb : by_ = 0#8) :
    Calls Try.prog 7 #[.slice A n c, .int .i64 (i64 at_), b8 by_, b8 more] w fun e w' => e = .returned (.bool true) ∧ Below w.heap.size w w' := by
  have hl0 : ((n : Int) == 0) = false := by simp; omega
  have hl5 : decide (2000 < (n : Int)) = false := by simp; omega
  obtain ⟨k, hk, hkn⟩ : ∃ k : Nat, n64 at_ % (n : Int) = k ∧ k < n := ⟨(n64 at_ % (n : Int)).toNat, by
    have := Int.emod_nonneg (n64 at_) (show (n : Int) ≠ 0 by omega); omega, by
    have := Int.emod_nonneg (n64 at_) (show (n : Int) ≠ 0 by omega)
    have := Int.emod_lt_of_pos (n64 at_) (show (0 : Int) < n by omega); omega⟩
  obtain ⟨i0, hi, hz0, hz1, hz2⟩ := info_parts info8
  have d0 := Lib.hid awake01
  have hn0 := n64_nonneg at_
  have hn1 := n64_le at_
  have hlen := h.len
  have hset := Lib.hid (show eqb xs (xs.set k (ath xs k ^^^ by_)) = 1#64 from by rw [eqb, if_pos ((set_same xs k by_ (by rw [hlen]; exact hkn)).2 hb)])
  have H := Lib.hid h
  clear h hb hlen
  go_enter Try.func7, Try.ntmps7
  go_wp2_with fail
  refine (copy_any A n c xs _ H.out (by omega)).mono ?_
  rintro e w1 ⟨A1, c1, rfl, hown, hb1⟩
  obtain ⟨g, rfl, hg1, hg2, hfr⟩ := own_some hown h0
  have hrd := own_rd hown
  have hck : w1.cell? ⟨g, k, none⟩ = some (b8 (ath xs k)) := by have := hrd.cells _ rfl k hkn; rwa [Addr.add_lit, Nat.zero_add] at this
  have hfk := hfr k
  have H2 := Lib.hid (hrd.set k hkn (ath xs k ^^^ by_))
  have hB2 := Lib.hid (hb1.setCell (p := ⟨g, k, none⟩) hg1 (b8 (ath xs k ^^^ by_)))
  have H3 := Lib.hid (H.out.below hB2.out (Nat.le_refl _))
  clear hown hrd hfr
  go_wp2_with fail
  refine (d0.out _).mono ?_
  rintro e w2 ⟨rfl, rfl⟩
  have q1 := equal_any A (some ⟨g, 0, none⟩) n n c c1 xs _ _ H3.out H2.out
  rw [hset.out] at q1
  have Q1 := Lib.hid q1
  clear q1
  go_wp2_with fail
  refine Q1.out.mono ?_
  rintro e w2 ⟨rfl, m, rfl⟩
  go_wp2_with fail
  refine (copy_any A n c xs _ (H3.out.drewN m) (by omega)).mono ?_
  rintro e w2 ⟨A2, c2, rfl, hown, hb2⟩
  have HB := Lib.hid ((below_drewN hB2.out m).trans (hb2.mono (by simp; exact hb1.size)))
  clear hb2
  have hsz2 := HB.out.size
  have HO2 := Lib.hid hown
  clear hown
  go_wp2_with (at_builtin; refine wpList_append_rd b8_one rfl _ _ 32 rfl w.heap.size 5 i0 (.int .u8 0) 1 Try.underlying32 hi hz0 hz1 hz2 rfl (.slice A2 n c2) n (xs.map b8) rfl ((ownsRow_le' HO2.out (by simp; exact hb1.size)).alloc _) (some ⟨w2.heap.size, 0, none⟩) 1 1 [more] rfl (Rd.one _ more 5) (by unfold maxLen; omega) (by omega) (by simp; omega) ?_; intro A3 c3 w3 hown3 hg3)
  have hB3 : Below w.heap.size w w3 := (HB.out.alloc hsz2 _).grown hg3 (by simp; omega) (own_block (ownsRow_le' HO2.out (by simp; exact hb1.size)))
  have q2 := equal_any A A3 n (n + 1) c c3 xs (xs ++ [more]) _ (H.out.below hB3 (Nat.le_refl _)) (own_rd (by simpa using hown3))
  rw [eqb_more] at q2
  have q3 := fun m => equal_any A A n n c c xs xs _ ((H.out.below hB3 (Nat.le_refl _)).drewN m) ((H.out.below hB3 (Nat.le_refl _)).drewN m)
  simp only [eqb_yes] at q3
  have Q2 := Lib.hid q2
  have Q3 := Lib.hid q3
  clear q2 q3 hown3 hg3
  refine Q2.out.mono ?_
  rintro e w4 ⟨rfl, m2, rfl⟩
  go_wp2_with fail
  refine (Q3.out _).mono ?_
  rintro e w4 ⟨rfl, m3, rfl⟩
  go_wp2_with fail
  go_ret
  exact ⟨rfl, below_drewN hB3 _⟩
theorem onebyte_no (A : Option Addr) (n c : Nat) (xs : List (BitVec 8)) (at_ : BitVec 64) (by_ more : BitVec 8) (w : World) (h : Rd b8 w A n c xs) (h0 : 0 < n) (h5 : n ≤ 2000)
    (hbb : (n8 by_ == 0) = false) (hb : ¬ by_ = 0#8) :
    Calls Try.prog 7 #[.slice A n c, .int .i64 (i64 at_), b8 by_, b8 more] w fun e w' => e = .returned (.bool true) ∧ Below w.heap.size w w' := by
  have hl0 : ((n : Int) == 0) = false := by simp; omega
  have hl5 : decide (2000 < (n : Int)) = false := by simp; omega
  obtain ⟨k, hk, hkn⟩ : ∃ k : Nat, n64 at_ % (n : Int) = k ∧ k < n := ⟨(n64 at_ % (n : Int)).toNat, by
    have := Int.emod_nonneg (n64 at_) (show (n : Int) ≠ 0 by omega); omega, by
    have := Int.emod_nonneg (n64 at_) (show (n : Int) ≠ 0 by omega)
    have := Int.emod_lt_of_pos (n64 at_) (show (0 : Int) < n by omega); omega⟩
  obtain ⟨i0, hi, hz0, hz1, hz2⟩ := info_parts info8
  have d0 := Lib.hid awake01
  have hn0 := n64_nonneg at_
  have hn1 := n64_le at_
  have hlen := h.len
  have hset := Lib.hid (show eqb xs (xs.set k (ath xs k ^^^ by_)) = 0#64 from eqb_no (fun e => hb ((set_same xs k by_ (by rw [hlen]; exact hkn)).1 e)))
  have H := Lib.hid h
  clear h hb hlen
  go_enter Try.func7, Try.ntmps7
  go_wp2_with fail
  refine (copy_any A n c xs _ H.out (by omega)).mono ?_
  rintro e w1 ⟨A1, c1, rfl, hown, hb1⟩
  obtain ⟨g, rfl, hg1, hg2, hfr⟩ := own_some hown h0
  have hrd := own_rd hown
  have hck : w1.cell? ⟨g, k, none⟩ = some (b8 (ath xs k)) := by have := hrd.cells _ rfl k hkn; rwa [Addr.add_lit, Nat.zero_add] at this
  have hfk := hfr k
  have H2 := Lib.hid (hrd.set k hkn (ath xs k ^^^ by_))
  have hB2 := Lib.hid (hb1.setCell (p := ⟨g, k, none⟩) hg1 (b8 (ath xs k ^^^ by_)))
  have H3 := Lib.hid (H.out.below hB2.out (Nat.le_refl _))
  clear hown hrd hfr
  go_wp2_with fail
  refine (d0.out _).mono ?_
  rintro e w2 ⟨rfl, rfl⟩
  have q1 := equal_any A (some ⟨g, 0, none⟩) n n c c1 xs _ _ H3.out H2.out
  rw [hset.out] at q1
  have Q1 := Lib.hid q1
  clear q1
  go_wp2_with fail
  refine Q1.out.mono ?_
  rintro e w2 ⟨rfl, m, rfl⟩
  go_wp2_with fail
  refine (copy_any A n c xs _ (H3.out.drewN m) (by omega)).mono ?_
  rintro e w2 ⟨A2, c2, rfl, hown, hb2⟩
  have HB := Lib.hid ((below_drewN hB2.out m).trans (hb2.mono (by simp; exact hb1.size)))
  clear hb2
  have hsz2 := HB.out.size
  have HO2 := Lib.hid hown
  clear hown
  go_wp2_with (at_builtin; refine wpList_append_rd b8_one rfl _ _ 32 rfl w.heap.size 5 i0 (.int .u8 0) 1 Try.underlying32 hi hz0 hz1 hz2 rfl (.slice A2 n c2) n (xs.map b8) rfl ((ownsRow_le' HO2.out (by simp; exact hb1.size)).alloc _) (some ⟨w2.heap.size, 0, none⟩) 1 1 [more] rfl (Rd.one _ more 5) (by unfold maxLen; omega) (by omega) (by simp; omega) ?_; intro A3 c3 w3 hown3 hg3)
  have hB3 : Below w.heap.size w w3 := (HB.out.alloc hsz2 _).grown hg3 (by simp; omega) (own_block (ownsRow_le' HO2.out (by simp; exact hb1.size)))
  have q2 := equal_any A A3 n (n + 1) c c3 xs (xs ++ [more]) _ (H.out.below hB3 (Nat.le_refl _)) (own_rd (by simpa using hown3))
  rw [eqb_more] at q2
  have q3 := fun m => equal_any A A n n c c xs xs _ ((H.out.below hB3 (Nat.le_refl _)).drewN m) ((H.out.below hB3 (Nat.le_refl _)).drewN m)
  simp only [eqb_yes] at q3
  have Q2 := Lib.hid q2
  have Q3 := Lib.hid q3
  clear q2 q3 hown3 hg3
  refine Q2.out.mono ?_
  rintro e w4 ⟨rfl, m2, rfl⟩
  go_wp2_with fail
  refine (Q3.out _).mono ?_
  rintro e w4 ⟨rfl, m3, rfl⟩
  go_wp2_with fail
  go_ret
  exact ⟨rfl, below_drewN hB3 _⟩
theorem CtOneByte_walk (A : Option Addr) (n c : Nat) (xs : List (BitVec 8)) (at_ : BitVec 64) (by_ more : BitVec 8) (w : World) (h : Rd b8 w A n c xs) :
    Calls Try.prog 7 #[.slice A n c, .int .i64 (i64 at_), b8 by_, b8 more] w fun e w' => e = .returned (.bool true) ∧ Below w.heap.size w w' := by
  by_cases h0 : n = 0
  · subst h0
    have d0 := Lib.hid awake01
    clear h
    go_enter Try.func7, Try.ntmps7
    go_wp2_with ((with_reducible refine (d0.out _).mono ?_); rintro e w' ⟨rfl, rfl⟩)
    go_ret
    exact ⟨rfl, Below.refl _ _⟩
  · by_cases h5 : n ≤ 2000
    · by_cases hb : by_ = 0#8
      · exact onebyte_yes A n c xs at_ by_ more w h (by omega) h5 (by rw [hb]; rfl) hb
      · exact onebyte_no A n c xs at_ by_ more w h (by omega) h5 (by rw [show (0 : Int) = n8 0#8 from rfl, n8_beq]; simpa using hb) hb
    · have hl0 : ((n : Int) == 0) = false := by simp; omega
      have hl5 : decide (2000 < (n : Int)) = true := by simp; omega
      have d0 := Lib.hid awake01
      clear h h0
      go_enter Try.func7, Try.ntmps7
      go_wp2_with ((with_reducible refine (d0.out _).mono ?_); rintro e w' ⟨rfl, rfl⟩)
      go_ret
      exact ⟨rfl, Below.refl _ _⟩
end Go.Proofs.Ytchfhndpbfohhaa
