/- What the functions of package ct on texts answer, and the reference's. Condition: lengths below 2^46. -/
import Derived.Test.YtchfhndpbfohhaaWalkCtNums
import Derived.Test.YtchfhndpbfohhaaHelp2
import Derived.StillTailTactics
namespace Go.Proofs.Ytchfhndpbfohhaa
set_option linter.unusedVariables false
set_option linter.unusedSimpArgs false
open Go.RowKit Bv
attribute [local go_sem] n8_beq n8_bne xor8 xorl8 or8 cv8_64 cv64_8 andl64

theorem own_set {w : World} {base g n cap k : Nat} {e : TypeId} {zs : List Value} (h : w.ownsRow base e 1 (.slice (some ⟨g, 0, none⟩) n cap) n zs) (hk : k < n) (v : Value) :
    (∃ u, w.cell? ⟨g, k, none⟩ = some u) ∧ w.frozen? ⟨g, k, none⟩ = false ∧ (w.setCell ⟨g, k, none⟩ v).ownsRow base e 1 (.slice (some ⟨g, 0, none⟩) n cap) n (zs.set k v) := by
  obtain ⟨hl, h | ⟨g', cap', cur, hv, hg, hb, hn, hm, hs, ht⟩⟩ := h
  · exact absurd h.1 (by intro h; cases h)
  · cases hv
    have hsz : k < cur.size := by omega
    refine ⟨⟨cur[k], by simp [World.cell?, hb, hsz]⟩, by simp [World.frozen?, hb], by simp [hl], .inr ⟨g, cap, cur.setIfInBounds k v, rfl, hg, ?_, by omega, hm, by simp [hs], ?_⟩⟩
    · simp only [World.setCell, Array.getElem?_modify, if_pos, hb, Option.map_some, Option.isSome_none, Bool.false_eq_true, if_false]
    · rw [Nat.mul_one] at ht ⊢
      rw [Array.toList_setIfInBounds, List.take_set, ht]

theorem pick8 (c : BitVec 64) (x y : BitVec 8) : (CtPure.pick c (x.setWidth 64) (y.setWidth 64)).setWidth 8 = if c &&& 1#64 = 1#64 then x else y := by
  rw [CtPure.pick_eq]
  split <;> simp
/-- What is chosen of two texts of one length. -/
def chosen (c : BitVec 64) (xs ys : List (BitVec 8)) : List (BitVec 8) := if c &&& 1#64 = 1#64 then xs else ys
theorem chosen_len (c : BitVec 64) (xs ys : List (BitVec 8)) (n : Nat) (hx : xs.length = n) (hy : ys.length = n) : (chosen c xs ys).length = n := by
  unfold chosen; split <;> assumption
theorem ath_chosen (c : BitVec 64) (xs ys : List (BitVec 8)) (k : Nat) : ath (chosen c xs ys) k = (CtPure.pick c ((ath xs k).setWidth 64) ((ath ys k).setWidth 64)).setWidth 8 := by
  rw [pick8]; unfold chosen; split <;> rfl

theorem fill_step (L : List (BitVec 8)) (n k : Nat) (hk : k < n) (hL : L.length = n) :
    ((L.take k ++ List.replicate (n - k) 0#8).map b8).set k (b8 (ath L k)) = (L.take (k + 1) ++ List.replicate (n - (k + 1)) 0#8).map b8 := by
  rw [← List.map_set, take_ath L k (by omega), List.append_assoc]
  congr 1
  rw [List.set_append_right _ _ (by rw [List.length_take]; omega)]
  congr 1
  rw [show k - (L.take k).length = 0 by rw [List.length_take]; omega, show n - k = (n - (k + 1)) + 1 by omega, List.replicate_succ]
  rfl
theorem choose_same (c : BitVec 64) (A B : Option Addr) (n ca cb : Nat) (xs ys : List (BitVec 8)) (w : World) (hx : Rd b8 w A n ca xs) (hy : Rd b8 w B n cb ys) (hn : n ≤ 70368744177664) :
    Calls Try.prog 26 #[b64 c, .slice A n ca, .slice B n cb] w (Fresh w n (chosen c xs ys)) := by
  obtain ⟨i0, hi, hz0, hz1, hz2⟩ := info_parts info8
  have hm1 := hx.le
  have hm2 := hx.most
  have hcl := chosen_len c xs ys n hx.len hy.len
  have HX := Lib.hid hx
  have HY := Lib.hid hy
  have HL := Lib.hid hcl
  clear hx hy hcl
  go_enter Try.func26, Try.ntmps26
  go_wp2_with (at_make; refine wpList_make_full _ rfl _ _ 32 rfl w.heap.size 5 i0 (.int .u8 0) 1 Try.underlying32 hi hz0 hz1 .i64 .i64 _ _ n rfl rfl rfl rfl (by rw [hz2]; omega) (by unfold maxLen; omega) (Nat.le_refl _) ?_; intro w0 hown0 hg0)
  have hB1 : Below w.heap.size w w0 := grown_below hg0 (by intro k hk; cases hk) (Nat.le_refl _)
  have hmk : (madeCells (Value.int .u8 0).cells (n * 1)).toList = (((chosen c xs ys).take 0 ++ List.replicate (n - 0) 0#8).map b8) := by
    simp [madeCells, Value.cells, Nat.mod_one]
    rw [List.map_const']
    simp
    exact .inr rfl
  rw [hmk] at hown0
  have HO := Lib.hid hown0
  clear hown0 hg0 hmk
  go_loopw [8, 19] (fun _ i wr => ∃ k : Nat, k ≤ n ∧ i = .int .i64 k ∧ wr.ownsRow w.heap.size 5 1 (.slice (some ⟨w.heap.size, 0, none⟩) n n) n (((chosen c xs ys).take k ++ List.replicate (n - k) 0#8).map b8) ∧ Below w.heap.size w wr) (fun _ i _ => n - (intOf i).toNat)
  case atStart => exact ⟨0, Nat.zero_le _, rfl, HO.out, hB1⟩
  case round =>
    obtain ⟨k, hk2, rfl, hown, hb⟩ := hrel
    by_cases hk : k < n
    · have hpk := Lib.hid (fun w => pick_any c ((ath xs k).setWidth 64) ((ath ys k).setWidth 64) w)
      obtain ⟨ad, rfl, hc1⟩ := (HX.out.below hb (Nat.le_refl _)).addr (by omega)
      obtain ⟨ad2, rfl, hc2⟩ := (HY.out.below hb (Nat.le_refl _)).addr (by omega)
      have h1 := hc1 k hk
      have h2 := hc2 k hk
      obtain ⟨⟨u, hu⟩, hf, hp⟩ := own_set hown hk (b8 (ath (chosen c xs ys) k))
      rw [ath_chosen] at hp
      have HP := Lib.hid hp
      clear hp hown hc1 hc2
      go_wp2
      go_still_tail 16, (by kernel_rfl)
      refine wpStill_step (fun K hK => ?_)
      go_simp
      refine ⟨_, (hpk.out _).mono (fun e w' h => ⟨h.1, h.2.symm⟩), hK _ ?_⟩
      clear hK K
      repeat still_step
      refine wpStill_nil ?_
      change wpList _ _ _ _ _ wr.drew
      go_wp2
      go_roundw
      case rel => exact ⟨k + 1, by omega, by go_num, by rw [← fill_step _ n k hk HL.out, ath_chosen]; exact World.ownsRow.drew HP.out, (hb.setCell (p := ⟨w.heap.size, k, none⟩) (Nat.le_refl _) _).drew⟩
      case measure => simp [intOf]; omega
    · obtain rfl : k = n := by omega
      have HO2 := Lib.hid hown
      clear hown
      go_wp2
      go_ret
      refine ⟨_, _, rfl, ?_, hb⟩
      have h3 := HO2.out
      rw [Nat.sub_self, List.replicate_zero, List.append_nil, List.take_of_length_le (by rw [HL.out]; exact Nat.le_refl _)] at h3
      exact h3
theorem choose_not (c : BitVec 64) (A B : Option Addr) (n m ca cb : Nat) (w : World) (hnm : n ≠ m) (hn : n ≤ 9223372036854775807) (hm : m ≤ 9223372036854775807) :
    Calls Try.prog 26 #[b64 c, .slice A n ca, .slice B m cb] w fun e w' => e = .returned (.slice none 0 0) ∧ w = w' := by
  have hne : ¬ ((n : Int) = (m : Int)) := by omega
  go_enter Try.func26, Try.ntmps26
  go_wp2
  go_ret
  exact ⟨rfl, rfl⟩
theorem refchoose_not (c : BitVec 64) (A B : Option Addr) (n m ca cb : Nat) (w : World) (hnm : n ≠ m) (hn : n ≤ 9223372036854775807) (hm : m ≤ 9223372036854775807) :
    Calls Try.prog 29 #[b64 c, .slice A n ca, .slice B m cb] w fun e w' => e = .returned (.slice none 0 0) ∧ w = w' := by
  have hne : ¬ ((n : Int) = (m : Int)) := by omega
  go_enter Try.func29, Try.ntmps29
  go_wp2
  go_ret
  exact ⟨rfl, rfl⟩
theorem refchoose_same (c : BitVec 64) (A B : Option Addr) (n ca cb : Nat) (xs ys : List (BitVec 8)) (w : World) (hx : Rd b8 w A n ca xs) (hy : Rd b8 w B n cb ys) (hn : n ≤ 70368744177664) :
    Calls Try.prog 29 #[b64 c, .slice A n ca, .slice B n cb] w (Fresh w n (chosen c xs ys)) := by
  obtain ⟨i0, hi, hz0, hz1, hz2⟩ := info_parts info8
  by_cases hc : c &&& 1#64 = 1#64
  · have he : chosen c xs ys = xs := if_pos hc
    rw [he]
    have h' : (n64 (c &&& 1#64) == 1) = true := by rw [hc]; rfl
    have HX := Lib.hid hx
    clear hx hy hc he
    go_enter Try.func29, Try.ntmps29
    go_wp2_with (at_builtin; refine wpList_append_rd b8_one rfl _ _ 32 rfl w.heap.size 5 i0 (.int .u8 0) 1 Try.underlying32 hi hz0 hz1 hz2 rfl (.slice none 0 0) 0 [] rfl (World.ownsRow_nil _ _ _ _) A n ca xs rfl HX.out (by unfold maxLen; omega) (by omega) (Nat.le_refl _) ?_; intro A' c' w' hown hg)
    go_ret
    simp only [Nat.zero_add, List.nil_append] at hown
    exact ⟨A', c', by simp, hown, grown_below hg (by intro k hk; cases hk) (Nat.le_refl _)⟩
  · have he : chosen c xs ys = ys := if_neg hc
    rw [he]
    have h' : (n64 (c &&& 1#64) == 1) = false := by rw [show (1 : Int) = n64 1#64 from rfl, n64_beq]; simpa using hc
    have HY := Lib.hid hy
    clear hx hy hc he
    go_enter Try.func29, Try.ntmps29
    go_wp2_with (at_builtin; refine wpList_append_rd b8_one rfl _ _ 32 rfl w.heap.size 5 i0 (.int .u8 0) 1 Try.underlying32 hi hz0 hz1 hz2 rfl (.slice none 0 0) 0 [] rfl (World.ownsRow_nil _ _ _ _) B n cb ys rfl HY.out (by unfold maxLen; omega) (by omega) (Nat.le_refl _) ?_; intro A' c' w' hown hg)
    go_ret
    simp only [Nat.zero_add, List.nil_append] at hown
    exact ⟨A', c', by simp, hown, grown_below hg (by intro k hk; cases hk) (Nat.le_refl _)⟩
theorem refequal_any (A B : Option Addr) (n m c d : Nat) (xs ys : List (BitVec 8)) (w : World) (hx : Rd b8 w A n c xs) (hy : Rd b8 w B m d ys) :
    Calls Try.prog 27 #[.slice A n c, .slice B m d] w fun e w' => e = .returned (b64 (eqb xs ys)) ∧ w = w' := by
  have k1 := conv_rd (P := Try.prog) w 32 5 9 Try.underlying32 Try.underlying5 Try.underlying9 hx
  have k2 := conv_rd (P := Try.prog) w 32 5 9 Try.underlying32 Try.underlying5 Try.underlying9 hy
  clear hx hy
  by_cases h : xs = ys
  · subst h
    rw [show eqb xs xs = 1#64 from if_pos rfl]
    go_enter Try.func27, Try.ntmps27
    go_wp2
    go_ret
    exact ⟨rfl, rfl⟩
  · rw [show eqb xs ys = 0#64 from if_neg h]
    have hne : ((sof xs).toList == (sof ys).toList) = false := by
      rw [ByteArray.toList_eq, ByteArray.toList_eq]
      simp only [beq_eq_false_iff_ne]
      exact fun e => h (sof_inj (WideShapes.bytes_inj e))
    go_enter Try.func27, Try.ntmps27
    go_wp2
    go_ret
    exact ⟨rfl, rfl⟩
end Go.Proofs.Ytchfhndpbfohhaa
