/- The walk of the law CtBytes. No conditions. -/
import Derived.Test.YtchfhndpbfohhaaCtB
import Derived.Test.YtchfhndpbfohhaaWalkCtOneByte
namespace Go.Proofs.Ytchfhndpbfohhaa
set_option linter.unusedVariables false
set_option linter.unusedSimpArgs false
open Go.RowKit Bv
attribute [local go_sem] n8_beq n8_bne xor8 xorl8 or8 cv8_64 cv64_8 andl64 n64_beq n64_bne

theorem CtBytes_same (A B : Option Addr) (n m ca cb : Nat) (xs ys : List (BitVec 8)) (c : BitVec 64) (w : World) (hx : Rd b8 w A n ca xs) (hy : Rd b8 w B n cb ys) (h1 : n ≤ 3000) (h2 : n ≤ 3000) :
    Calls Try.prog 8 #[.slice A n ca, .slice B n cb, b64 c] w fun e w' => e = .returned (.bool true) ∧ Below w.heap.size w w' := by
  have d0 := Lib.hid awake01
  have hlx := Lib.hid hx.len
  have hly := Lib.hid hy.len
  have HX := Lib.hid hx
  have HY := Lib.hid hy
  clear hx hy
  have t1 : decide (3000 < (n : Int)) = false := by simp; omega
  have t2 : decide (3000 < (n : Int)) = false := by simp; omega
  have f71 : Hid (∀ (A : Option Addr) (n c : Nat) (xs : List (BitVec 8)) (w : World), Rd b8 w A n c xs → n ≤ 70368744177664 → Calls Try.prog 25 #[.slice A n c, .int .u8 71] w (Owned w n xs 71#8)) := Lib.hid (fun A n c xs w h hn => ownc_any A n c xs 71#8 w h hn)
  have k71 : Hid (∀ (A : Option Addr) (g n c : Nat) (xs : List (BitVec 8)) (w : World), Blk w g 5 ((xs ++ [71#8, 71#8, 71#8]).map b8) → Rd b8 w A n c xs → n ≤ 70368744177664 →
    Calls Try.prog 31 #[.slice (some ⟨g, 0, none⟩) n (n + 3), .slice A n c, .int .u8 71] w (Quiet w (.bool true))) := Lib.hid (fun A g n c xs w h1 h2 hn => kept_yes A g n c xs 71#8 w h1 h2 hn)
  go_enter Try.func8, Try.ntmps8
  go_wp2_with fail
  refine (f71.out A n ca xs _ HX.out (by omega)).mono ?_
  rintro e w1 ⟨g1, rfl, hg1, hk1, hb1⟩
  have HK1 := Lib.hid hk1
  have HB1 := Lib.hid hb1
  clear hk1 hb1
  go_wp2_with fail
  refine (f71.out B n cb ys _ (HY.out.below HB1.out (Nat.le_refl _)) (by omega)).mono ?_
  rintro e w2 ⟨g2, rfl, hg2, hk2, hb2⟩
  have hs1 : w.heap.size ≤ w1.heap.size := HB1.out.size
  have hs2 : w1.heap.size ≤ w2.heap.size := hb2.size
  have Bw : Hid (∀ W, Below w2.heap.size w2 W → Below w.heap.size w W) := Lib.hid (fun W h => (HB1.out.trans (hb2.mono hs1)).trans (h.mono (by omega)))
  have lx : Hid (∀ W, Below w2.heap.size w2 W → Rd b8 W A n ca xs) := Lib.hid (fun W h => HX.out.below (Bw.out W h) (Nat.le_refl _))
  have ly : Hid (∀ W, Below w2.heap.size w2 W → Rd b8 W B n cb ys) := Lib.hid (fun W h => HY.out.below (Bw.out W h) (Nat.le_refl _))
  have bx : Hid (∀ W, Below w2.heap.size w2 W → Blk W g1 5 ((xs ++ [71#8, 71#8, 71#8]).map b8)) := Lib.hid (fun W h => (HK1.out.below hb2 HK1.out.lt).below h (Nat.lt_of_lt_of_le HK1.out.lt hs2))
  have by' : Hid (∀ W, Below w2.heap.size w2 W → Blk W g2 5 ((ys ++ [71#8, 71#8, 71#8]).map b8)) := Lib.hid (fun W h => hk2.below h hk2.lt)
  have rx : Hid (∀ W, Below w2.heap.size w2 W → Rd b8 W (some ⟨g1, 0, none⟩) n (n + 3) xs) := Lib.hid (fun W h => blk_rd (bx.out W h) hlx.out (by omega) (by omega))
  have ry : Hid (∀ W, Below w2.heap.size w2 W → Rd b8 W (some ⟨g2, 0, none⟩) n (n + 3) ys) := Lib.hid (fun W h => blk_rd (by'.out W h) hly.out (by omega) (by omega))
  have z0 := Lib.hid (Below.refl w2.heap.size w2)
  clear hk2 hb2
  go_wp2_with fail
  refine (choose_same c (some ⟨g1, 0, none⟩) (some ⟨g2, 0, none⟩) n (n + 3) (n + 3) xs ys _ (rx.out _ z0.out) (ry.out _ z0.out) (by omega)).mono ?_
  rintro e w3 ⟨A3, c3, rfl, hown3, hb3⟩
  have HO3 := Lib.hid hown3
  have z3 := Lib.hid hb3
  clear hown3 hb3
  go_wp2_with fail
  refine (d0.out _).mono ?_
  rintro e w4 ⟨rfl, rfl⟩
  have e1 := Lib.hid (equal_any (some ⟨g1, 0, none⟩) (some ⟨g2, 0, none⟩) n n (n + 3) (n + 3) xs ys _ (rx.out _ z3.out) (ry.out _ z3.out))
  go_wp2_with fail
  refine (loud e1.out).mono ?_
  rintro e w4 ⟨rfl, hq⟩
  have z4 := Lib.hid (z3.out.trans (hq _))
  have zz4 := Lib.hid (hq w3.heap.size)
  have hq4 : w3.heap.size ≤ w4.heap.size := zz4.out.size
  clear hq
  have e2 := Lib.hid (refequal_any A B n n ca cb xs ys _ (lx.out _ z4.out) (ly.out _ z4.out))
  go_wp2_with fail
  refine e2.out.mono ?_
  rintro e w5 ⟨rfl, rfl⟩
  have e3 := equal_any (some ⟨g1, 0, none⟩) A n n (n + 3) ca xs xs _ (rx.out _ z4.out) (lx.out _ z4.out)
  rw [eqb_yes] at e3
  have E3 := Lib.hid e3
  clear e3
  go_wp2_with fail
  refine (loud E3.out).mono ?_
  rintro e w5 ⟨rfl, hq⟩
  have z5 := Lib.hid (z4.out.trans (hq _))
  have zz5 := Lib.hid (zz4.out.trans (hq _))
  have hq5 : w3.heap.size ≤ w5.heap.size := zz5.out.size
  clear hq
  go_wp2_with fail
  refine (refchoose_same c A B n ca cb xs ys _ (lx.out _ z5.out) (ly.out _ z5.out) (by omega)).mono ?_
  rintro e w6 ⟨A6, c6, rfl, hown6, hb6⟩
  have hs3 : w2.heap.size ≤ w3.heap.size := z3.out.size
  have z6 := Lib.hid (z5.out.trans (hb6.mono (by omega)))
  have hb6' := Lib.hid (zz5.out.trans (hb6.mono hq5))
  have hown6' := Lib.hid hown6
  clear hb6 hown6
  go_wp2_with fail
  refine (bytes_eq _ _ _ _ _ _ _ _ ((own_rd HO3.out).below hb6'.out (Nat.le_refl _)) (own_rd hown6'.out)).mono ?_
  rintro e w7 ⟨rfl, rfl⟩
  go_wp2_with fail
  refine (spoil_own A3 n c3 _ w2.heap.size (chosen c xs ys) _ (own_below HO3.out hb6'.out (Nat.le_refl _)) (by omega)).mono ?_
  rintro e w7 ⟨rfl, hb7⟩
  have z7 := Lib.hid (z6.out.trans hb7)
  clear hb7
  have e4 := Lib.hid (k71.out A g1 n ca xs _ (bx.out _ z7.out) (lx.out _ z7.out) (by omega))
  go_wp2_with fail
  refine (loud e4.out).mono ?_
  rintro e w8 ⟨rfl, hq⟩
  have z8 := Lib.hid (z7.out.trans (hq _))
  clear hq
  have e5 := Lib.hid (k71.out B g2 n cb ys _ (by'.out _ z8.out) (ly.out _ z8.out) (by omega))
  go_wp2_with fail
  refine (loud e5.out).mono ?_
  rintro e w9 ⟨rfl, hq⟩
  have hfin := Lib.hid (Bw.out _ (z8.out.trans (hq _)))
  clear hq
  go_wp2_with fail
  go_ret
  exact ⟨rfl, hfin.out⟩
theorem CtBytes_not (A B : Option Addr) (n m ca cb : Nat) (xs ys : List (BitVec 8)) (c : BitVec 64) (w : World) (hx : Rd b8 w A n ca xs) (hy : Rd b8 w B m cb ys) (h1 : n ≤ 3000) (h2 : m ≤ 3000) (hnm : n ≠ m) :
    Calls Try.prog 8 #[.slice A n ca, .slice B m cb, b64 c] w fun e w' => e = .returned (.bool true) ∧ Below w.heap.size w w' := by
  have d0 := Lib.hid awake01
  have hlx := Lib.hid hx.len
  have hly := Lib.hid hy.len
  have HX := Lib.hid hx
  have HY := Lib.hid hy
  clear hx hy
  have t1 : decide (3000 < (n : Int)) = false := by simp; omega
  have t2 : decide (3000 < (m : Int)) = false := by simp; omega
  have f71 : Hid (∀ (A : Option Addr) (n c : Nat) (xs : List (BitVec 8)) (w : World), Rd b8 w A n c xs → n ≤ 70368744177664 → Calls Try.prog 25 #[.slice A n c, .int .u8 71] w (Owned w n xs 71#8)) := Lib.hid (fun A n c xs w h hn => ownc_any A n c xs 71#8 w h hn)
  have k71 : Hid (∀ (A : Option Addr) (g n c : Nat) (xs : List (BitVec 8)) (w : World), Blk w g 5 ((xs ++ [71#8, 71#8, 71#8]).map b8) → Rd b8 w A n c xs → n ≤ 70368744177664 →
    Calls Try.prog 31 #[.slice (some ⟨g, 0, none⟩) n (n + 3), .slice A n c, .int .u8 71] w (Quiet w (.bool true))) := Lib.hid (fun A g n c xs w h1 h2 hn => kept_yes A g n c xs 71#8 w h1 h2 hn)
  go_enter Try.func8, Try.ntmps8
  go_wp2_with fail
  refine (f71.out A n ca xs _ HX.out (by omega)).mono ?_
  rintro e w1 ⟨g1, rfl, hg1, hk1, hb1⟩
  have HK1 := Lib.hid hk1
  have HB1 := Lib.hid hb1
  clear hk1 hb1
  go_wp2_with fail
  refine (f71.out B m cb ys _ (HY.out.below HB1.out (Nat.le_refl _)) (by omega)).mono ?_
  rintro e w2 ⟨g2, rfl, hg2, hk2, hb2⟩
  have hs1 : w.heap.size ≤ w1.heap.size := HB1.out.size
  have hs2 : w1.heap.size ≤ w2.heap.size := hb2.size
  have Bw : Hid (∀ W, Below w2.heap.size w2 W → Below w.heap.size w W) := Lib.hid (fun W h => (HB1.out.trans (hb2.mono hs1)).trans (h.mono (by omega)))
  have lx : Hid (∀ W, Below w2.heap.size w2 W → Rd b8 W A n ca xs) := Lib.hid (fun W h => HX.out.below (Bw.out W h) (Nat.le_refl _))
  have ly : Hid (∀ W, Below w2.heap.size w2 W → Rd b8 W B m cb ys) := Lib.hid (fun W h => HY.out.below (Bw.out W h) (Nat.le_refl _))
  have bx : Hid (∀ W, Below w2.heap.size w2 W → Blk W g1 5 ((xs ++ [71#8, 71#8, 71#8]).map b8)) := Lib.hid (fun W h => (HK1.out.below hb2 HK1.out.lt).below h (Nat.lt_of_lt_of_le HK1.out.lt hs2))
  have by' : Hid (∀ W, Below w2.heap.size w2 W → Blk W g2 5 ((ys ++ [71#8, 71#8, 71#8]).map b8)) := Lib.hid (fun W h => hk2.below h hk2.lt)
  have rx : Hid (∀ W, Below w2.heap.size w2 W → Rd b8 W (some ⟨g1, 0, none⟩) n (n + 3) xs) := Lib.hid (fun W h => blk_rd (bx.out W h) hlx.out (by omega) (by omega))
  have ry : Hid (∀ W, Below w2.heap.size w2 W → Rd b8 W (some ⟨g2, 0, none⟩) m (m + 3) ys) := Lib.hid (fun W h => blk_rd (by'.out W h) hly.out (by omega) (by omega))
  have z0 := Lib.hid (Below.refl w2.heap.size w2)
  clear hk2 hb2
  go_wp2_with fail
  refine (choose_not c (some ⟨g1, 0, none⟩) (some ⟨g2, 0, none⟩) n m (n + 3) (m + 3) _ hnm (by omega) (by omega)).mono ?_
  rintro e w3 ⟨rfl, rfl⟩
  have z3 := z0
  go_wp2_with fail
  refine (d0.out _).mono ?_
  rintro e w4 ⟨rfl, rfl⟩
  have e1 := Lib.hid (equal_any (some ⟨g1, 0, none⟩) (some ⟨g2, 0, none⟩) n m (n + 3) (m + 3) xs ys _ (rx.out _ z3.out) (ry.out _ z3.out))
  go_wp2_with fail
  refine (loud e1.out).mono ?_
  rintro e w4 ⟨rfl, hq⟩
  have z4 := Lib.hid (z3.out.trans (hq _))
  have zz4 := Lib.hid (hq w2.heap.size)
  have hq4 : w2.heap.size ≤ w4.heap.size := zz4.out.size
  clear hq
  have e2 := Lib.hid (refequal_any A B n m ca cb xs ys _ (lx.out _ z4.out) (ly.out _ z4.out))
  go_wp2_with fail
  refine e2.out.mono ?_
  rintro e w5 ⟨rfl, rfl⟩
  have e3 := equal_any (some ⟨g1, 0, none⟩) A n n (n + 3) ca xs xs _ (rx.out _ z4.out) (lx.out _ z4.out)
  rw [eqb_yes] at e3
  have E3 := Lib.hid e3
  clear e3
  go_wp2_with fail
  refine (loud E3.out).mono ?_
  rintro e w5 ⟨rfl, hq⟩
  have z5 := Lib.hid (z4.out.trans (hq _))
  have zz5 := Lib.hid (zz4.out.trans (hq _))
  have hq5 : w2.heap.size ≤ w5.heap.size := zz5.out.size
  clear hq
  go_wp2_with fail
  refine (refchoose_not c A B n m ca cb _ hnm (by omega) (by omega)).mono ?_
  rintro e w6 ⟨rfl, rfl⟩
  have z6 := z5
  go_wp2_with fail
  refine (bytes_eq _ _ _ _ _ _ _ _ (Rd.nil _) (Rd.nil _)).mono ?_
  rintro e w7 ⟨rfl, rfl⟩
  go_wp2_with fail
  refine (spoil_nil 0 none _).mono ?_
  rintro e w7 ⟨rfl, rfl⟩
  have z7 := z6
  have e4 := Lib.hid (k71.out A g1 n ca xs _ (bx.out _ z7.out) (lx.out _ z7.out) (by omega))
  go_wp2_with fail
  refine (loud e4.out).mono ?_
  rintro e w8 ⟨rfl, hq⟩
  have z8 := Lib.hid (z7.out.trans (hq _))
  clear hq
  have e5 := Lib.hid (k71.out B g2 m cb ys _ (by'.out _ z8.out) (ly.out _ z8.out) (by omega))
  go_wp2_with fail
  refine (loud e5.out).mono ?_
  rintro e w9 ⟨rfl, hq⟩
  have hfin := Lib.hid (Bw.out _ (z8.out.trans (hq _)))
  clear hq
  go_wp2_with fail
  go_ret
  exact ⟨rfl, hfin.out⟩
theorem CtBytes_long1 (A B : Option Addr) (n m ca cb : Nat) (c : BitVec 64) (w : World) (hn : n ≤ 9223372036854775807) (h : 3000 < n) :
    Calls Try.prog 8 #[.slice A n ca, .slice B m cb, b64 c] w fun e w' => e = .returned (.bool true) ∧ Below w.heap.size w w' := by
  have t1 : decide (3000 < (n : Int)) = true := by simp; omega
  have d0 := Lib.hid awake01
  go_enter Try.func8, Try.ntmps8
  go_wp2_with ((with_reducible refine (d0.out _).mono ?_); rintro e w' ⟨rfl, rfl⟩)
  go_ret
  exact ⟨rfl, Below.refl _ _⟩
theorem CtBytes_long2 (A B : Option Addr) (n m ca cb : Nat) (c : BitVec 64) (w : World) (hm : m ≤ 9223372036854775807) (h1 : n ≤ 3000) (h : 3000 < m) :
    Calls Try.prog 8 #[.slice A n ca, .slice B m cb, b64 c] w fun e w' => e = .returned (.bool true) ∧ Below w.heap.size w w' := by
  have t1 : decide (3000 < (n : Int)) = false := by simp; omega
  have t2 : decide (3000 < (m : Int)) = true := by simp; omega
  have d0 := Lib.hid awake01
  go_enter Try.func8, Try.ntmps8
  go_wp2_with ((with_reducible refine (d0.out _).mono ?_); rintro e w' ⟨rfl, rfl⟩)
  go_ret
  exact ⟨rfl, Below.refl _ _⟩
theorem CtBytes_walk (A : Option Addr) (n ca : Nat) (xs : List (BitVec 8)) (B : Option Addr) (m cb : Nat) (ys : List (BitVec 8)) (c : BitVec 64) (w : World) (hx : Rd b8 w A n ca xs) (hy : Rd b8 w B m cb ys) :
    Calls Try.prog 8 #[.slice A n ca, .slice B m cb, b64 c] w fun e w' => e = .returned (.bool true) ∧ Below w.heap.size w w' := by
  have a1 := hx.le; have a2 := hx.most; have a3 := hy.le; have a4 := hy.most
  by_cases h1 : n ≤ 3000
  · by_cases h2 : m ≤ 3000
    · by_cases hnm : n = m
      · subst hnm
        exact CtBytes_same A B n n ca cb xs ys c w hx hy h1 h2
      · exact CtBytes_not A B n m ca cb xs ys c w hx hy h1 h2 hnm
    · exact CtBytes_long2 A B n m ca cb c w (by omega) h1 (by omega)
  · exact CtBytes_long1 A B n m ca cb c w (by omega) (by omega)
end Go.Proofs.Ytchfhndpbfohhaa
